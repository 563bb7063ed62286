/- What the draws of this seat compute, each shown once. No condition. -/
import Derived.Test.YthkjlbggipocdaaVq
set_option linter.unusedVariables false
set_option linter.unusedSimpArgs false
set_option linter.unusedSectionVars false
namespace Go.Proofs.Ythkjlbggipocdaa.Sh
open Go Go.Proofs
def nxB (L : List Int) (a : Int) : Int := if a < (L.length : Int) then IntKind.wrap .i64 (L.getD a.toNat 0) else 0
def nxS (L : List Int) (q : Int × Int) : Int := IntKind.wrap .u64 (IntKind.wrap .u64 (IntKind.wrap .u64 (q.2 * 6364136223846793005) + IntKind.wrap .u64 (nxB L q.1)) + 1442695040888963407)
def nxV (L : List Int) (q : Int × Int) : Int := if q.1 + 1 ≤ (L.length : Int) then nxB L q.1 else IntKind.wrap .i64 (iand .u64 (ishr .u64 (nxS L q) 40) 255)
def nxQ (L : List Int) (q : Int × Int) : Int × Int := (q.1 + 1, nxS L q)
def pkV (L : List Int) (k : Int) (q : Int × Int) : Int :=
  if k ≤ 1 then 0 else if 200 < k then (IntKind.wrap .i64 (IntKind.wrap .i64 (nxV L q * 256) + nxV L (nxQ L q))).tmod k else (nxV L q).tmod k
def pkQ (L : List Int) (k : Int) (q : Int × Int) : Int × Int :=
  if k ≤ 1 then q else if 200 < k then nxQ L (nxQ L q) else nxQ L q
def bytesOk (L : List Int) : Prop := ∀ x ∈ L, 0 ≤ x ∧ x ≤ 255
theorem natlt {a : Int} {n : Nat} (h0 : 0 ≤ a) (h : a < (n : Int)) : a.toNat < n := by omega
theorem bytes_nil : bytesOk [] := fun x hx => by cases hx
theorem nxB_bd {L : List Int} (h : bytesOk L) (a : Int) : 0 ≤ nxB L a ∧ nxB L a ≤ 255 := by
  unfold nxB
  split
  · have : 0 ≤ L.getD a.toNat 0 ∧ L.getD a.toNat 0 ≤ 255 := by
      rw [List.getD_eq_getElem?_getD]
      cases e : L[a.toNat]? with
      | none => decide
      | some x => exact h x (List.mem_of_getElem? e)
    rw [wrap64 (by omega) (by omega)]
    exact this
  · decide
theorem iand_bd (x : Int) : 0 ≤ iand .u64 x 255 ∧ iand .u64 x 255 ≤ 255 := by
  have h : (BitVec.ofInt 64 x &&& BitVec.ofInt 64 255).toNat ≤ 255 := by
    rw [BitVec.toNat_and]
    exact Nat.le_trans Nat.and_le_right (by decide)
  unfold iand
  show 0 ≤ IntKind.wrap .u64 ((BitVec.ofInt 64 x &&& BitVec.ofInt 64 255).toNat : Int) ∧ IntKind.wrap .u64 ((BitVec.ofInt 64 x &&& BitVec.ofInt 64 255).toNat : Int) ≤ 255
  generalize (BitVec.ofInt 64 x &&& BitVec.ofInt 64 255).toNat = y at h
  simp [IntKind.wrap, IntKind.signed, IntKind.bits]
  omega
theorem nxV_bd {L : List Int} (h : bytesOk L) (q : Int × Int) : 0 ≤ nxV L q ∧ nxV L q ≤ 255 := by
  unfold nxV
  split
  · exact nxB_bd h _
  · have := iand_bd (ishr .u64 (nxS L q) 40)
    rw [wrap64 (by omega) (by omega)]
    exact this
theorem tmod_bd {x k : Int} (hx : 0 ≤ x) (hk : 1 < k) : 0 ≤ x.tmod k ∧ x.tmod k < k := ⟨Int.tmod_nonneg _ hx, Int.tmod_lt_of_pos _ (by omega)⟩
theorem pkV_bd {L : List Int} (h : bytesOk L) {k : Int} (hk : 1 ≤ k) (q : Int × Int) : 0 ≤ pkV L k q ∧ pkV L k q < k := by
  unfold pkV
  split
  · omega
  · split
    · have h1 := nxV_bd h q
      have h2 := nxV_bd h (nxQ L q)
      rw [wrap64 (x := nxV L q * 256) (by omega) (by omega), wrap64 (by omega) (by omega)]
      exact tmod_bd (by omega) (by omega)
    · exact tmod_bd (nxV_bd h q).1 (by omega)
theorem pkQ_bd {L : List Int} {k : Int} {q : Int × Int} : q.1 ≤ (pkQ L k q).1 ∧ (pkQ L k q).1 ≤ q.1 + 2 := by
  unfold pkQ nxQ
  repeat' split
  · omega
  · show q.1 ≤ q.1 + 1 + 1 ∧ q.1 + 1 + 1 ≤ q.1 + 2; omega
  · show q.1 ≤ q.1 + 1 ∧ q.1 + 1 ≤ q.1 + 2; omega
theorem fn133 : FnOk Try.prog 133 Try.f133 (bodyOf Try.f133) := ⟨Try.func133, rfl, by rfl⟩
def s133 : Spec := hspec fun args H => match args, H with
  | [.c (.p 0 (.l 0))], [some ⟨true, 0, .lit [.sl 1 (.x o) (.x n), .i .i64 (.x a), .i .u64 (.x s)]⟩, some ⟨false, 0, .it .u8 L⟩] => some (vI (nxV (L ()) (a (), s ())), [some ⟨true, 0, .lit [.sl 1 (.x o) (.x n), .i .i64 (.x fun _ => (nxQ (L ()) (a (), s ())).1), .i .u64 (.x fun _ => (nxQ (L ()) (a (), s ())).2)]⟩, some ⟨false, 0, .it .u8 L⟩], [fun _ => 0 ≤ a () ∧ a () ≤ 100000, fun _ => o () = 0 ∧ (L ()).length = n () ∧ n () ≤ 4096 ∧ bytesOk (L ())])
  | [.c (.p 0 (.l 0))], [some ⟨true, 0, .lit [.sn, .i .i64 (.x a), .i .u64 (.x s)]⟩] => some (vI (nxV [] (a (), s ())), [some ⟨true, 0, .lit [.sn, .i .i64 (.x fun _ => (nxQ [] (a (), s ())).1), .i .u64 (.x fun _ => (nxQ [] (a (), s ())).2)]⟩], [fun _ => 0 ≤ a () ∧ a () ≤ 100000])
  | _, _ => none
set_option maxRecDepth 100000 in
set_option maxHeartbeats 1000000 in
theorem ok133 : Ok Try.prog 133 (s133) := ok_of_wpaH (E := envGetL []) mixed tts (envOk_nil _) fn133 fun args H v H' o hs ho => by
  split at hs
  · rename_i o n a s L
    cases hs
    obtain ⟨⟨ha0, ha1⟩, ⟨ho0, hlen, hbig, hby⟩⟩ := ho.two
    try simp only [Unit.unit] at ha0 ha1 ho0 hlen hbig 
    refine ⟨_, HLe.refl _, ?_⟩
    cbv
    have hB : nxB (L ⟨⟩) (a ⟨⟩) = if a ⟨⟩ < (n ⟨⟩ : Int) then IntKind.wrap .i64 (((L ⟨⟩)).getD (a ⟨⟩).toNat 0) else 0 := by rw [← hlen]; rfl
    have hV : nxV (L ⟨⟩) (a ⟨⟩, s ⟨⟩) = if a ⟨⟩ + 1 ≤ (n ⟨⟩ : Int) then nxB (L ⟨⟩) (a ⟨⟩) else IntKind.wrap .i64 (iand .u64 (ishr .u64 (nxS (L ⟨⟩) (a ⟨⟩, s ⟨⟩)) 40) 255) := by rw [← hlen]; rfl
    have hS : nxS (L ⟨⟩) (a ⟨⟩, s ⟨⟩) = IntKind.wrap .u64 (IntKind.wrap .u64 (IntKind.wrap .u64 (s ⟨⟩ * 6364136223846793005) + IntKind.wrap .u64 (nxB (L ⟨⟩) (a ⟨⟩))) + 1442695040888963407) := rfl
    have hw : IntKind.wrap .i64 (a ⟨⟩ + 1) = a ⟨⟩ + 1 := wrap64 (by omega) (by omega)
    by_cases hc : a ⟨⟩ < (n ⟨⟩ : Int)
    · rw [if_pos hc] at hB
      rw [hB] at hS hV
      repeat' first
        | (refine Br.mk (fun h => ?_) (fun h => ?_) <;> cbv)
        | (refine Ob.mk ?_ ?_; rotate_left; cbv)
        | (refine Lex.mk (by decide +kernel) ?_; cbv)
      all_goals (try simp only [Unit.unit, Int.ofNat_lt, Int.ofNat_le, BE.val, IE.val, NE.val, ltB_iff, ltB_no, leB_iff, leB_no, Int.toNat_natCast, Nat.zero_add, Nat.add_zero, Nat.mul_one, forced, beq_iff_eq, beq_eq_false_iff_ne, bne_iff_ne, bne_eq_false_iff_eq] at *)
      all_goals (try simp only [hw, ho0, hlen, Nat.zero_add, Nat.mul_one] at *)
      all_goals first | with_reducible rfl | omega | (refine ⟨by omega, ?_⟩; omega) | (exfalso; omega) | exact natlt ha0 hc | exact ⟨ha0, hc⟩ | exact hS.symm | exact hS | (rw [hV, if_pos (by omega)]; done) | (rw [hV, if_neg (by omega)]; done) | (rw [hV, if_neg (by omega), hS]; done) | rfl
    · rw [if_neg hc] at hB
      rw [hB, show IntKind.wrap .u64 0 = 0 from rfl] at hS
      rw [hB] at hV
      repeat' first
        | (refine Br.mk (fun h => ?_) (fun h => ?_) <;> cbv)
        | (refine Ob.mk ?_ ?_; rotate_left; cbv)
        | (refine Lex.mk (by decide +kernel) ?_; cbv)
      all_goals (try simp only [Unit.unit, Int.ofNat_lt, Int.ofNat_le, BE.val, IE.val, NE.val, ltB_iff, ltB_no, leB_iff, leB_no, Int.toNat_natCast, Nat.zero_add, Nat.add_zero, Nat.mul_one, forced, beq_iff_eq, beq_eq_false_iff_ne, bne_iff_ne, bne_eq_false_iff_eq] at *)
      all_goals (try simp only [hw, ho0, hlen, Nat.zero_add, Nat.mul_one] at *)
      all_goals first | with_reducible rfl | omega | (refine ⟨by omega, ?_⟩; omega) | (exfalso; omega) | exact natlt ha0 hc | exact ⟨ha0, hc⟩ | exact hS.symm | exact hS | (rw [hV, if_pos (by omega)]; done) | (rw [hV, if_neg (by omega)]; done) | (rw [hV, if_neg (by omega), hS]; done) | rfl
  · rename_i a s
    cases hs
    obtain ⟨ha0, ha1⟩ := ho.one
    have hby := bytes_nil
    try simp only [Unit.unit] at ha0 ha1 
    refine ⟨_, HLe.refl _, ?_⟩
    cbv
    have hB : nxB [] (a ⟨⟩) = if a ⟨⟩ < ((0 : Nat) : Int) then IntKind.wrap .i64 (([]).getD (a ⟨⟩).toNat 0) else 0 := by rfl
    have hV : nxV [] (a ⟨⟩, s ⟨⟩) = if a ⟨⟩ + 1 ≤ ((0 : Nat) : Int) then nxB [] (a ⟨⟩) else IntKind.wrap .i64 (iand .u64 (ishr .u64 (nxS [] (a ⟨⟩, s ⟨⟩)) 40) 255) := by rfl
    have hS : nxS [] (a ⟨⟩, s ⟨⟩) = IntKind.wrap .u64 (IntKind.wrap .u64 (IntKind.wrap .u64 (s ⟨⟩ * 6364136223846793005) + IntKind.wrap .u64 (nxB [] (a ⟨⟩))) + 1442695040888963407) := rfl
    have hw : IntKind.wrap .i64 (a ⟨⟩ + 1) = a ⟨⟩ + 1 := wrap64 (by omega) (by omega)
    by_cases hc : a ⟨⟩ < ((0 : Nat) : Int)
    · rw [if_pos hc] at hB
      rw [hB] at hS hV
      exfalso; omega
    · rw [if_neg hc] at hB
      rw [hB, show IntKind.wrap .u64 0 = 0 from rfl] at hS
      rw [hB] at hV
      repeat' first
        | (refine Br.mk (fun h => ?_) (fun h => ?_) <;> cbv)
        | (refine Ob.mk ?_ ?_; rotate_left; cbv)
        | (refine Lex.mk (by decide +kernel) ?_; cbv)
      all_goals (try simp only [Unit.unit, Int.ofNat_lt, Int.ofNat_le, BE.val, IE.val, NE.val, ltB_iff, ltB_no, leB_iff, leB_no, Int.toNat_natCast, Nat.zero_add, Nat.add_zero, Nat.mul_one, forced, beq_iff_eq, beq_eq_false_iff_ne, bne_iff_ne, bne_eq_false_iff_eq] at *)
      all_goals (try simp only [hw, Nat.zero_add, Nat.mul_one] at *)
      all_goals first | with_reducible rfl | omega | (refine ⟨by omega, ?_⟩; omega) | (exfalso; omega) | exact natlt ha0 hc | exact ⟨ha0, hc⟩ | exact hS.symm | exact hS | (rw [hV, if_pos (by omega)]; done) | (rw [hV, if_neg (by omega)]; done) | (rw [hV, if_neg (by omega), hS]; done) | rfl
  · cases hs
theorem nx_bd {L : List Int} {q : Int × Int} (h0 : 0 ≤ q.1) (h1 : q.1 ≤ 50000) : 0 ≤ (nxQ L q).1 ∧ (nxQ L q).1 ≤ 100000 := ⟨by show 0 ≤ q.1 + 1; omega, by show q.1 + 1 ≤ 100000; omega⟩
theorem pkV_0 {L : List Int} {k : Int} {q : Int × Int} (h : k ≤ 1) : pkV L k q = 0 := if_pos h
theorem pkQ_0 {L : List Int} {k : Int} {q : Int × Int} (h : k ≤ 1) : pkQ L k q = q := if_pos h
theorem pkV_1 {L : List Int} {k : Int} {q : Int × Int} (h : ¬ k ≤ 1) (h2 : ¬ 200 < k) : pkV L k q = (nxV L q).tmod k := by unfold pkV; rw [if_neg h, if_neg h2]
theorem pkQ_1 {L : List Int} {k : Int} {q : Int × Int} (h : ¬ k ≤ 1) (h2 : ¬ 200 < k) : pkQ L k q = nxQ L q := by unfold pkQ; rw [if_neg h, if_neg h2]
theorem pkV_2 {L : List Int} {k : Int} {q : Int × Int} (h : ¬ k ≤ 1) (h2 : 200 < k) : pkV L k q = (IntKind.wrap .i64 (IntKind.wrap .i64 (nxV L q * 256) + nxV L (nxQ L q))).tmod k := by unfold pkV; rw [if_neg h, if_pos h2]
theorem pkQ_2 {L : List Int} {k : Int} {q : Int × Int} (h : ¬ k ≤ 1) (h2 : 200 < k) : pkQ L k q = nxQ L (nxQ L q) := by unfold pkQ; rw [if_neg h, if_pos h2]
theorem fn84 : FnOk Try.prog 84 Try.f84 (bodyOf Try.f84) := ⟨Try.func84, rfl, by rfl⟩
def s84 : Spec := hspec fun args H => match args, H with
  | [.c (.p 0 (.l 0)), .c (.i .i64 (.x k))], [some ⟨true, 0, .lit [.sl 1 (.x o) (.x n), .i .i64 (.x a), .i .u64 (.x s)]⟩, some ⟨false, 0, .it .u8 L⟩] => some (vI (pkV (L ()) (k ()) (a (), s ())), [some ⟨true, 0, .lit [.sl 1 (.x o) (.x n), .i .i64 (.x fun _ => (pkQ (L ()) (k ()) (a (), s ())).1), .i .u64 (.x fun _ => (pkQ (L ()) (k ()) (a (), s ())).2)]⟩, some ⟨false, 0, .it .u8 L⟩], [fun _ => 0 ≤ a () ∧ a () ≤ 100000, fun _ => o () = 0 ∧ (L ()).length = n () ∧ n () ≤ 4096 ∧ bytesOk (L ()), fun _ => a () ≤ 50000])
  | [.c (.p 0 (.l 0)), .c (.i .i64 (.x k))], [some ⟨true, 0, .lit [.sn, .i .i64 (.x a), .i .u64 (.x s)]⟩] => some (vI (pkV [] (k ()) (a (), s ())), [some ⟨true, 0, .lit [.sn, .i .i64 (.x fun _ => (pkQ [] (k ()) (a (), s ())).1), .i .u64 (.x fun _ => (pkQ [] (k ()) (a (), s ())).2)]⟩], [fun _ => 0 ≤ a () ∧ a () ≤ 100000, fun _ => a () ≤ 50000])
  | _, _ => none
def E84 : Env := fun g => envGetL [(133, ⟨false, s133, none⟩)] g
theorem E84ok : EnvOk Try.prog E84 := envOk_cons ok133 (envOk_nil _)
set_option maxRecDepth 100000 in
set_option maxHeartbeats 1000000 in
theorem ok84 : Ok Try.prog 84 (s84) := ok_of_wpaH (E := E84) mixed tts E84ok fn84 fun args H v H' o hs ho => by
  split at hs
  · rename_i k o n a s L
    cases hs
    obtain ⟨⟨ha0, ha1⟩, ⟨ho0, hlen, hbig, hby⟩, hx0⟩ := ho.three
    try simp only [Unit.unit] at ha0 ha1 ho0 hlen hbig hx0
    refine ⟨_, HLe.refl _, ?_⟩
    cbv
    by_cases h1 : k ⟨⟩ ≤ 1
    · have hV := pkV_0 (L := (L ⟨⟩)) (q := (a ⟨⟩, s ⟨⟩)) h1
      have hQ := pkQ_0 (L := (L ⟨⟩)) (q := (a ⟨⟩, s ⟨⟩)) h1
      repeat' first
        | (refine Br.mk (fun h => ?_) (fun h => ?_) <;> cbv)
        | (refine Ob.mk ?_ ?_; rotate_left; cbv)
        | (refine Lex.mk (by decide +kernel) ?_; cbv)
      all_goals try (first | exact ⟨ha0, ha1⟩ | exact nx_bd ha0 hx0 | exact ⟨ho0, hlen, hbig, hby⟩ | exact ⟨by trivial, hlen, hbig, hby⟩)
      all_goals (try simp only [Unit.unit, Int.ofNat_lt, Int.ofNat_le, BE.val, IE.val, NE.val, ltB_iff, ltB_no, leB_iff, leB_no, Int.toNat_natCast, Nat.zero_add, Nat.add_zero, Nat.mul_one, forced, beq_iff_eq, beq_eq_false_iff_ne, bne_iff_ne, bne_eq_false_iff_eq] at *)
      all_goals first | with_reducible rfl | (exfalso; omega) | omega | (rw [hV]; done) | (rw [hV]; rfl) | (rw [hQ]; done) | (rw [hQ]; rfl) | rfl
    · by_cases h2 : 200 < k ⟨⟩
      · have hV := pkV_2 (L := (L ⟨⟩)) (q := (a ⟨⟩, s ⟨⟩)) h1 h2
        have hQ := pkQ_2 (L := (L ⟨⟩)) (q := (a ⟨⟩, s ⟨⟩)) h1 h2
        repeat' first
          | (refine Br.mk (fun h => ?_) (fun h => ?_) <;> cbv)
          | (refine Ob.mk ?_ ?_; rotate_left; cbv)
          | (refine Lex.mk (by decide +kernel) ?_; cbv)
        all_goals try (first | exact ⟨ha0, ha1⟩ | exact nx_bd ha0 hx0 | exact ⟨ho0, hlen, hbig, hby⟩ | exact ⟨by trivial, hlen, hbig, hby⟩)
        all_goals (try simp only [Unit.unit, Int.ofNat_lt, Int.ofNat_le, BE.val, IE.val, NE.val, ltB_iff, ltB_no, leB_iff, leB_no, Int.toNat_natCast, Nat.zero_add, Nat.add_zero, Nat.mul_one, forced, beq_iff_eq, beq_eq_false_iff_ne, bne_iff_ne, bne_eq_false_iff_eq] at *)
        all_goals first | with_reducible rfl | (exfalso; omega) | omega | (rw [hV]; done) | (rw [hV]; rfl) | (rw [hQ]; done) | (rw [hQ]; rfl) | rfl
      · have hV := pkV_1 (L := (L ⟨⟩)) (q := (a ⟨⟩, s ⟨⟩)) h1 h2
        have hQ := pkQ_1 (L := (L ⟨⟩)) (q := (a ⟨⟩, s ⟨⟩)) h1 h2
        repeat' first
          | (refine Br.mk (fun h => ?_) (fun h => ?_) <;> cbv)
          | (refine Ob.mk ?_ ?_; rotate_left; cbv)
          | (refine Lex.mk (by decide +kernel) ?_; cbv)
        all_goals try (first | exact ⟨ha0, ha1⟩ | exact nx_bd ha0 hx0 | exact ⟨ho0, hlen, hbig, hby⟩ | exact ⟨by trivial, hlen, hbig, hby⟩)
        all_goals (try simp only [Unit.unit, Int.ofNat_lt, Int.ofNat_le, BE.val, IE.val, NE.val, ltB_iff, ltB_no, leB_iff, leB_no, Int.toNat_natCast, Nat.zero_add, Nat.add_zero, Nat.mul_one, forced, beq_iff_eq, beq_eq_false_iff_ne, bne_iff_ne, bne_eq_false_iff_eq] at *)
        all_goals first | with_reducible rfl | (exfalso; omega) | omega | (rw [hV]; done) | (rw [hV]; rfl) | (rw [hQ]; done) | (rw [hQ]; rfl) | rfl
  · rename_i k a s
    cases hs
    obtain ⟨⟨ha0, ha1⟩, hx0⟩ := ho.two
    have hby := bytes_nil
    try simp only [Unit.unit] at ha0 ha1 hx0
    refine ⟨_, HLe.refl _, ?_⟩
    cbv
    by_cases h1 : k ⟨⟩ ≤ 1
    · have hV := pkV_0 (L := []) (q := (a ⟨⟩, s ⟨⟩)) h1
      have hQ := pkQ_0 (L := []) (q := (a ⟨⟩, s ⟨⟩)) h1
      repeat' first
        | (refine Br.mk (fun h => ?_) (fun h => ?_) <;> cbv)
        | (refine Ob.mk ?_ ?_; rotate_left; cbv)
        | (refine Lex.mk (by decide +kernel) ?_; cbv)
      all_goals try (first | exact ⟨ha0, ha1⟩ | exact nx_bd ha0 hx0)
      all_goals (try simp only [Unit.unit, Int.ofNat_lt, Int.ofNat_le, BE.val, IE.val, NE.val, ltB_iff, ltB_no, leB_iff, leB_no, Int.toNat_natCast, Nat.zero_add, Nat.add_zero, Nat.mul_one, forced, beq_iff_eq, beq_eq_false_iff_ne, bne_iff_ne, bne_eq_false_iff_eq] at *)
      all_goals first | with_reducible rfl | (exfalso; omega) | omega | (rw [hV]; done) | (rw [hV]; rfl) | (rw [hQ]; done) | (rw [hQ]; rfl) | rfl
    · by_cases h2 : 200 < k ⟨⟩
      · have hV := pkV_2 (L := []) (q := (a ⟨⟩, s ⟨⟩)) h1 h2
        have hQ := pkQ_2 (L := []) (q := (a ⟨⟩, s ⟨⟩)) h1 h2
        repeat' first
          | (refine Br.mk (fun h => ?_) (fun h => ?_) <;> cbv)
          | (refine Ob.mk ?_ ?_; rotate_left; cbv)
          | (refine Lex.mk (by decide +kernel) ?_; cbv)
        all_goals try (first | exact ⟨ha0, ha1⟩ | exact nx_bd ha0 hx0)
        all_goals (try simp only [Unit.unit, Int.ofNat_lt, Int.ofNat_le, BE.val, IE.val, NE.val, ltB_iff, ltB_no, leB_iff, leB_no, Int.toNat_natCast, Nat.zero_add, Nat.add_zero, Nat.mul_one, forced, beq_iff_eq, beq_eq_false_iff_ne, bne_iff_ne, bne_eq_false_iff_eq] at *)
        all_goals first | with_reducible rfl | (exfalso; omega) | omega | (rw [hV]; done) | (rw [hV]; rfl) | (rw [hQ]; done) | (rw [hQ]; rfl) | rfl
      · have hV := pkV_1 (L := []) (q := (a ⟨⟩, s ⟨⟩)) h1 h2
        have hQ := pkQ_1 (L := []) (q := (a ⟨⟩, s ⟨⟩)) h1 h2
        repeat' first
          | (refine Br.mk (fun h => ?_) (fun h => ?_) <;> cbv)
          | (refine Ob.mk ?_ ?_; rotate_left; cbv)
          | (refine Lex.mk (by decide +kernel) ?_; cbv)
        all_goals try (first | exact ⟨ha0, ha1⟩ | exact nx_bd ha0 hx0)
        all_goals (try simp only [Unit.unit, Int.ofNat_lt, Int.ofNat_le, BE.val, IE.val, NE.val, ltB_iff, ltB_no, leB_iff, leB_no, Int.toNat_natCast, Nat.zero_add, Nat.add_zero, Nat.mul_one, forced, beq_iff_eq, beq_eq_false_iff_ne, bne_iff_ne, bne_eq_false_iff_eq] at *)
        all_goals first | with_reducible rfl | (exfalso; omega) | omega | (rw [hV]; done) | (rw [hV]; rfl) | (rw [hQ]; done) | (rw [hQ]; rfl) | rfl
  · cases hs
theorem fn132 : FnOk Try.prog 132 Try.f132 (bodyOf Try.f132) := ⟨Try.func132, rfl, by rfl⟩
def s132 : Spec := hspec fun args H => match args, H with
  | [.c (.p 0 (.l 0)), .c (.i .i64 (.x k))], [some ⟨true, 0, .lit [.sl 1 (.x o) (.x n), .i .i64 (.x a), .i .u64 (.x s)]⟩, some ⟨false, 0, .it .u8 L⟩] => some (vB (pkV (L ()) (k ()) (a (), s ()) == 0), [some ⟨true, 0, .lit [.sl 1 (.x o) (.x n), .i .i64 (.x fun _ => (pkQ (L ()) (k ()) (a (), s ())).1), .i .u64 (.x fun _ => (pkQ (L ()) (k ()) (a (), s ())).2)]⟩, some ⟨false, 0, .it .u8 L⟩], [fun _ => 0 ≤ a () ∧ a () ≤ 100000, fun _ => o () = 0 ∧ (L ()).length = n () ∧ n () ≤ 4096 ∧ bytesOk (L ()), fun _ => a () ≤ 50000])
  | [.c (.p 0 (.l 0)), .c (.i .i64 (.x k))], [some ⟨true, 0, .lit [.sn, .i .i64 (.x a), .i .u64 (.x s)]⟩] => some (vB (pkV [] (k ()) (a (), s ()) == 0), [some ⟨true, 0, .lit [.sn, .i .i64 (.x fun _ => (pkQ [] (k ()) (a (), s ())).1), .i .u64 (.x fun _ => (pkQ [] (k ()) (a (), s ())).2)]⟩], [fun _ => 0 ≤ a () ∧ a () ≤ 100000, fun _ => a () ≤ 50000])
  | _, _ => none
def E132 : Env := fun g => envGetL [(84, ⟨false, s84, none⟩)] g
theorem E132ok : EnvOk Try.prog E132 := envOk_cons ok84 (envOk_nil _)
set_option maxRecDepth 100000 in
set_option maxHeartbeats 1000000 in
theorem ok132 : Ok Try.prog 132 (s132) := ok_of_wpaH (E := E132) mixed tts E132ok fn132 fun args H v H' o hs ho => by
  split at hs
  · rename_i k o n a s L
    cases hs
    obtain ⟨⟨ha0, ha1⟩, ⟨ho0, hlen, hbig, hby⟩, hx0⟩ := ho.three
    try simp only [Unit.unit] at ha0 ha1 ho0 hlen hbig hx0
    refine ⟨_, HLe.refl _, ?_⟩
    cbv
    repeat' first
      | (refine Br.mk (fun h => ?_) (fun h => ?_) <;> cbv)
      | (refine Ob.mk ?_ ?_; rotate_left; cbv)
      | (refine Lex.mk (by decide +kernel) ?_; cbv)
    all_goals try (first | exact ⟨ha0, ha1⟩ | exact ⟨ho0, hlen, hbig, hby⟩ | exact ⟨by trivial, hlen, hbig, hby⟩)
    all_goals (try simp only [Unit.unit, Int.ofNat_lt, Int.ofNat_le, BE.val, IE.val, NE.val, ltB_iff, ltB_no, leB_iff, leB_no, Int.toNat_natCast, Nat.zero_add, Nat.add_zero, Nat.mul_one, forced, beq_iff_eq, beq_eq_false_iff_ne, bne_iff_ne, bne_eq_false_iff_eq] at *)
    all_goals first | with_reducible rfl | omega | exact hx0 | rfl
  · rename_i k a s
    cases hs
    obtain ⟨⟨ha0, ha1⟩, hx0⟩ := ho.two
    have hby := bytes_nil
    try simp only [Unit.unit] at ha0 ha1 hx0
    refine ⟨_, HLe.refl _, ?_⟩
    cbv
    repeat' first
      | (refine Br.mk (fun h => ?_) (fun h => ?_) <;> cbv)
      | (refine Ob.mk ?_ ?_; rotate_left; cbv)
      | (refine Lex.mk (by decide +kernel) ?_; cbv)
    all_goals try (first | exact ⟨ha0, ha1⟩)
    all_goals (try simp only [Unit.unit, Int.ofNat_lt, Int.ofNat_le, BE.val, IE.val, NE.val, ltB_iff, ltB_no, leB_iff, leB_no, Int.toNat_natCast, Nat.zero_add, Nat.add_zero, Nat.mul_one, forced, beq_iff_eq, beq_eq_false_iff_ne, bne_iff_ne, bne_eq_false_iff_eq] at *)
    all_goals first | with_reducible rfl | omega | exact hx0 | rfl
  · cases hs
theorem fn131 : FnOk Try.prog 131 Try.f131 (bodyOf Try.f131) := ⟨Try.func131, rfl, by rfl⟩
def s131 : Spec := hspec fun args H => match args, H with
  | [.c (.p 0 (.l 0)), .c (.sl 1 (.x o') (.x m))], [some ⟨true, 0, .lit [.sl 2 (.x o) (.x n), .i .i64 (.x a), .i .u64 (.x s)]⟩, some ⟨true, 1, x⟩, some ⟨false, 0, .it .u8 L⟩] => match x.toIt .i64 with
    | some l => some (vI ((l ()).getD (pkV (L ()) (m () : Int) (a (), s ())).toNat 0), [some ⟨true, 0, .lit [.sl 2 (.x o) (.x n), .i .i64 (.x fun _ => (pkQ (L ()) (m () : Int) (a (), s ())).1), .i .u64 (.x fun _ => (pkQ (L ()) (m () : Int) (a (), s ())).2)]⟩, some ⟨true, 1, .it .i64 l⟩, some ⟨false, 0, .it .u8 L⟩], [fun _ => 0 ≤ a () ∧ a () ≤ 50000, fun _ => o () = 0 ∧ (L ()).length = n () ∧ n () ≤ 4096 ∧ bytesOk (L ()), fun _ => o' () = 0 ∧ (l ()).length = m () ∧ 1 ≤ m () ∧ m () ≤ 200])
    | none => none
  | [.c (.p 0 (.l 0)), .c (.sl 1 (.x o') (.x m))], [some ⟨true, 0, .lit [.sn, .i .i64 (.x a), .i .u64 (.x s)]⟩, some ⟨true, 1, x⟩] => match x.toIt .i64 with
    | some l => some (vI ((l ()).getD (pkV [] (m () : Int) (a (), s ())).toNat 0), [some ⟨true, 0, .lit [.sn, .i .i64 (.x fun _ => (pkQ [] (m () : Int) (a (), s ())).1), .i .u64 (.x fun _ => (pkQ [] (m () : Int) (a (), s ())).2)]⟩, some ⟨true, 1, .it .i64 l⟩], [fun _ => 0 ≤ a () ∧ a () ≤ 50000, fun _ => o' () = 0 ∧ (l ()).length = m () ∧ 1 ≤ m () ∧ m () ≤ 200])
    | none => none
  | _, _ => none
def E131 : Env := fun g => envGetL [(84, ⟨false, s84, none⟩)] g
theorem E131ok : EnvOk Try.prog E131 := envOk_cons ok84 (envOk_nil _)
set_option maxRecDepth 100000 in
set_option maxHeartbeats 1000000 in
theorem ok131 : Ok Try.prog 131 (s131) := ok_of_wpaH (E := E131) mixed tts E131ok fn131 fun args H v H' o hs ho => by
  split at hs
  · rename_i o' m o n a s x L
    split at hs
    · rename_i l hl
      cases hs
      obtain ⟨⟨ha0, ha1⟩, ⟨ho0, hlen, hbig, hby⟩, ⟨ho1, hlen1, hm1, hm2⟩⟩ := ho.three
      try simp only [Unit.unit] at *
      have hb := pkV_bd hby (k := (m ⟨⟩ : Int)) (by omega) (a ⟨⟩, s ⟨⟩)
      refine ⟨_, HLe.cons (BLe.refl _) (HLe.cons (BLe.it hl) (HLe.cons (BLe.refl _) HLe.nil)), ?_⟩
      cbv
      repeat' first
        | (refine Br.mk (fun h => ?_) (fun h => ?_) <;> cbv)
        | (refine Ob.mk ?_ ?_; rotate_left; cbv)
        | (refine Lex.mk (by decide +kernel) ?_; cbv)
      all_goals try (first | exact ⟨ha0, Int.le_trans ha1 (by decide)⟩ | exact ha1 | exact ⟨ho0, hlen, hbig, hby⟩ | exact ⟨by trivial, hlen, hbig, hby⟩ | exact hb | exact natlt hb.1 hb.2)
      all_goals (try simp only [Unit.unit, Int.ofNat_lt, Int.ofNat_le, BE.val, IE.val, NE.val, ltB_iff, ltB_no, leB_iff, leB_no, Int.toNat_natCast, Nat.zero_add, Nat.add_zero, Nat.mul_one, forced, beq_iff_eq, beq_eq_false_iff_ne, bne_iff_ne, bne_eq_false_iff_eq] at *)
      all_goals (try simp only [ho1, Nat.zero_add, Nat.mul_one] at *)
      all_goals first | with_reducible rfl | exact hb | exact natlt hb.1 hb.2 | (rw [hlen1]; exact natlt hb.1 hb.2) | rfl
    · cases hs
  · rename_i o' m a s x
    split at hs
    · rename_i l hl
      cases hs
      obtain ⟨⟨ha0, ha1⟩, ⟨ho1, hlen1, hm1, hm2⟩⟩ := ho.two
      have hby := bytes_nil
      try simp only [Unit.unit] at *
      have hb := pkV_bd hby (k := (m ⟨⟩ : Int)) (by omega) (a ⟨⟩, s ⟨⟩)
      refine ⟨_, HLe.cons (BLe.refl _) (HLe.cons (BLe.it hl) HLe.nil), ?_⟩
      cbv
      repeat' first
        | (refine Br.mk (fun h => ?_) (fun h => ?_) <;> cbv)
        | (refine Ob.mk ?_ ?_; rotate_left; cbv)
        | (refine Lex.mk (by decide +kernel) ?_; cbv)
      all_goals try (first | exact ⟨ha0, Int.le_trans ha1 (by decide)⟩ | exact ha1 | exact hb | exact natlt hb.1 hb.2)
      all_goals (try simp only [Unit.unit, Int.ofNat_lt, Int.ofNat_le, BE.val, IE.val, NE.val, ltB_iff, ltB_no, leB_iff, leB_no, Int.toNat_natCast, Nat.zero_add, Nat.add_zero, Nat.mul_one, forced, beq_iff_eq, beq_eq_false_iff_ne, bne_iff_ne, bne_eq_false_iff_eq] at *)
      all_goals (try simp only [ho1, Nat.zero_add, Nat.mul_one] at *)
      all_goals first | with_reducible rfl | exact hb | exact natlt hb.1 hb.2 | (rw [hlen1]; exact natlt hb.1 hb.2) | rfl
    · cases hs
  · cases hs
theorem fn83 : FnOk Try.prog 83 Try.f83 (bodyOf Try.f83) := ⟨Try.func83, rfl, by rfl⟩
def s83 : Spec := hspec fun args H => match args, H with
  | [.c (.sl 0 (.x o) (.x n))], [some ⟨false, 0, .it .u8 L⟩] => some (.c (.p 1 (.l 0)), [some ⟨false, 0, .it .u8 L⟩, some ⟨true, 0, .lit [.sl 0 (.x o) (.x n), .i .i64 (.l 0), .i .u64 (.l 0)]⟩], [])
  | [.c .sn], [] => some (.c (.p 0 (.l 0)), [some ⟨true, 0, .lit [.sn, .i .i64 (.l 0), .i .u64 (.l 0)]⟩], [])
  | _, _ => none
theorem ok83 : Ok Try.prog 83 (s83) := ok_of_wpaH (E := envGetL []) mixed tts (envOk_nil _) fn83 fun args H v H' o hs ho => by
  split at hs
  · rename_i o n L
    cases hs
    refine ⟨_, HLe.refl _, ?_⟩
    cbv
    repeat' first
      | (refine alt_t (by assumption) ?_; cbv)
      | (refine alt_f (by assumption) ?_; cbv)
      | (refine alt_b (fun h => ?_) (fun h => ?_) <;> cbv)
      | (refine Br.mk (fun h => ?_) (fun h => ?_) <;> cbv)
      | (refine Ob.mk ?_ ?_; rotate_left; cbv)
      | (refine Lex.mk (by decide +kernel) ?_; cbv)
    all_goals (try simp only [Unit.unit, Int.ofNat_lt, Int.ofNat_le, BE.val, IE.val, NE.val, ltB_iff, ltB_no, leB_iff, leB_no, Int.toNat_natCast, Nat.zero_add, Nat.add_zero, Nat.mul_one, forced, beq_iff_eq, beq_eq_false_iff_ne, bne_iff_ne, bne_eq_false_iff_eq] at *)
    all_goals first | with_reducible rfl | grind | rfl
  · cases hs
    refine ⟨_, HLe.refl _, ?_⟩
    cbv
    repeat' first
      | (refine alt_t (by assumption) ?_; cbv)
      | (refine alt_f (by assumption) ?_; cbv)
      | (refine alt_b (fun h => ?_) (fun h => ?_) <;> cbv)
      | (refine Br.mk (fun h => ?_) (fun h => ?_) <;> cbv)
      | (refine Ob.mk ?_ ?_; rotate_left; cbv)
      | (refine Lex.mk (by decide +kernel) ?_; cbv)
    all_goals (try simp only [Unit.unit, Int.ofNat_lt, Int.ofNat_le, BE.val, IE.val, NE.val, ltB_iff, ltB_no, leB_iff, leB_no, Int.toNat_natCast, Nat.zero_add, Nat.add_zero, Nat.mul_one, forced, beq_iff_eq, beq_eq_false_iff_ne, bne_iff_ne, bne_eq_false_iff_eq] at *)
    all_goals first | with_reducible rfl | grind | rfl
  · cases hs
theorem fn24 : FnOk Try.prog 24 Try.f24 (bodyOf Try.f24) := ⟨Try.func24, rfl, by rfl⟩
def s24 : Spec := hspec fun args H => match args, H with
  | [.c (.sl 0 (.x _) (.x n))], [some ⟨false, 0, .it .u8 _⟩] => some (vB (ltB 4096 (n () : Int)), [none], [])
  | [.c .sn], [] => some (.c (.b (.l false)), [], [])
  | _, _ => none
theorem ok24 : Ok Try.prog 24 (s24) := ok_of_wpaH (E := envGetL []) mixed tts (envOk_nil _) fn24 fun args H v H' o hs ho => by
  split at hs
  · rename_i o n L
    cases hs
    refine ⟨_, HLe.refl _, ?_⟩
    cbv
    repeat' first
      | (refine alt_t (by assumption) ?_; cbv)
      | (refine alt_f (by assumption) ?_; cbv)
      | (refine alt_b (fun h => ?_) (fun h => ?_) <;> cbv)
      | (refine Br.mk (fun h => ?_) (fun h => ?_) <;> cbv)
      | (refine Ob.mk ?_ ?_; rotate_left; cbv)
      | (refine Lex.mk (by decide +kernel) ?_; cbv)
    all_goals (try simp only [Unit.unit, Int.ofNat_lt, Int.ofNat_le, BE.val, IE.val, NE.val, ltB_iff, ltB_no, leB_iff, leB_no, Int.toNat_natCast, Nat.zero_add, Nat.add_zero, Nat.mul_one, forced, beq_iff_eq, beq_eq_false_iff_ne, bne_iff_ne, bne_eq_false_iff_eq] at *)
    all_goals first | with_reducible rfl | grind | rfl
  · cases hs
    refine ⟨_, HLe.refl _, ?_⟩
    cbv
    repeat' first
      | (refine alt_t (by assumption) ?_; cbv)
      | (refine alt_f (by assumption) ?_; cbv)
      | (refine alt_b (fun h => ?_) (fun h => ?_) <;> cbv)
      | (refine Br.mk (fun h => ?_) (fun h => ?_) <;> cbv)
      | (refine Ob.mk ?_ ?_; rotate_left; cbv)
      | (refine Lex.mk (by decide +kernel) ?_; cbv)
    all_goals (try simp only [Unit.unit, Int.ofNat_lt, Int.ofNat_le, BE.val, IE.val, NE.val, ltB_iff, ltB_no, leB_iff, leB_no, Int.toNat_natCast, Nat.zero_add, Nat.add_zero, Nat.mul_one, forced, beq_iff_eq, beq_eq_false_iff_ne, bne_iff_ne, bne_eq_false_iff_eq] at *)
    all_goals first | with_reducible rfl | grind | rfl
  · cases hs
theorem fn26 : FnOk Try.prog 26 Try.f26 (bodyOf Try.f26) := ⟨Try.func26, rfl, by rfl⟩
def s26 : Spec := hspec fun args H => match args, H with
  | [.c (.sl 0 (.x o) (.x n)), .c (.i .i64 (.x k))], [some ⟨false, 0, .it .u8 L⟩] => some (vI (pkV (L ()) (k ()) (0, 0)), [none], [fun _ => o () = 0 ∧ (L ()).length = n () ∧ n () ≤ 4096 ∧ bytesOk (L ())])
  | [.c .sn, .c (.i .i64 (.x k))], [] => some (vI (pkV [] (k ()) (0, 0)), [], [])
  | _, _ => none
def E26 : Env := fun g => envGetL [(83, ⟨false, s83, none⟩), (84, ⟨false, s84, none⟩)] g
theorem E26ok : EnvOk Try.prog E26 := envOk_cons ok83 (envOk_cons ok84 (envOk_nil _))
theorem ok26 : Ok Try.prog 26 (s26) := ok_of_wpaH (E := E26) mixed tts E26ok fn26 fun args H v H' o hs ho => by
  split at hs
  · rename_i o n k L
    cases hs
    have hcb := ho.one
    refine ⟨_, HLe.refl _, ?_⟩
    cbv
    repeat' first
      | (refine alt_t (by assumption) ?_; cbv)
      | (refine alt_f (by assumption) ?_; cbv)
      | (refine alt_b (fun h => ?_) (fun h => ?_) <;> cbv)
      | (refine Br.mk (fun h => ?_) (fun h => ?_) <;> cbv)
      | (refine Ob.mk ?_ ?_; rotate_left; cbv)
      | (refine Lex.mk (by decide +kernel) ?_; cbv)
    all_goals (try simp only [Unit.unit, Int.ofNat_lt, Int.ofNat_le, BE.val, IE.val, NE.val, ltB_iff, ltB_no, leB_iff, leB_no, Int.toNat_natCast, Nat.zero_add, Nat.add_zero, Nat.mul_one, forced, beq_iff_eq, beq_eq_false_iff_ne, bne_iff_ne, bne_eq_false_iff_eq] at *)
    all_goals first | with_reducible rfl | exact hcb | exact ⟨by decide, by decide⟩ | decide | rfl
  · rename_i k
    cases hs
    refine ⟨_, HLe.refl _, ?_⟩
    cbv
    repeat' first
      | (refine alt_t (by assumption) ?_; cbv)
      | (refine alt_f (by assumption) ?_; cbv)
      | (refine alt_b (fun h => ?_) (fun h => ?_) <;> cbv)
      | (refine Br.mk (fun h => ?_) (fun h => ?_) <;> cbv)
      | (refine Ob.mk ?_ ?_; rotate_left; cbv)
      | (refine Lex.mk (by decide +kernel) ?_; cbv)
    all_goals (try simp only [Unit.unit, Int.ofNat_lt, Int.ofNat_le, BE.val, IE.val, NE.val, ltB_iff, ltB_no, leB_iff, leB_no, Int.toNat_natCast, Nat.zero_add, Nat.add_zero, Nat.mul_one, forced, beq_iff_eq, beq_eq_false_iff_ne, bne_iff_ne, bne_eq_false_iff_eq] at *)
    all_goals first | with_reducible rfl | exact hcb | exact ⟨by decide, by decide⟩ | decide | rfl
  · cases hs
/-! a web that is drawn -/
def drSt (L : List Int) (q : Int × Int) : Nat := floatOfInt .f32 ([64, 256, 1000, 4096].getD (pkV L 4 q).toNat 0)
def drQ1 (L : List Int) (q : Int × Int) : Int × Int := pkQ L 4 q
def drSp (L : List Int) (q : Int × Int) : Nat := fop .quo .f32 (floatOfInt .f32 (IntKind.wrap .i64 (4 + pkV L 20 (drQ1 L q)))) 1082130432
def drQ2 (L : List Int) (q : Int × Int) : Int × Int := pkQ L 20 (drQ1 L q)
def drFd (L : List Int) (q : Int × Int) : Nat := fop .quo .f32 (floatOfInt .f32 (pkV L 40 (drQ2 L q))) 1082130432
def drQ3 (L : List Int) (q : Int × Int) : Int × Int := pkQ L 40 (drQ2 L q)
def drK (L : List Int) (q : Int × Int) : Int := 1 + pkV L 4 (drQ3 L q)
def drN (L : List Int) (q : Int × Int) : Nat := (drK L q).toNat
def drQ4 (L : List Int) (q : Int × Int) : Int × Int := pkQ L 4 (drQ3 L q)
/-- a span -/
def spQa (L : List Int) (q : Int × Int) : Int × Int := pkQ L 2 q
def spY (L : List Int) (q : Int × Int) : Bool := pkV L 2 q == 0
def spV (L : List Int) (q : Int × Int) (sp : Nat) : Nat := if spY L q then fop .add .f32 sp (fop .quo .f32 (floatOfInt .f32 (IntKind.wrap .i64 (pkV L 9 (spQa L q) - 3))) 1115684864) else sp
def spQb (L : List Int) (q : Int × Int) : Int × Int := if spY L q then pkQ L 9 (spQa L q) else spQa L q
def spLen (L : List Int) (q : Int × Int) : Nat := fop .quo .f32 (floatOfInt .f32 (IntKind.wrap .i64 (2 + pkV L 30 (spQb L q)))) 1073741824
def spQc (L : List Int) (q : Int × Int) : Int × Int := pkQ L 30 (spQb L q)
def spTen (L : List Int) (q : Int × Int) : Nat := fop .quo .f32 (floatOfInt .f32 (IntKind.wrap .i64 (pkV L 80 (spQc L q) - 8))) 1082130432
def spQ (L : List Int) (q : Int × Int) : Int × Int := pkQ L 80 (spQc L q)
def drI (L : List Int) (q : Int × Int) : Nat → (Int × Int) × Nat
  | 0 => (drQ4 L q, drSp L q)
  | i + 1 => (spQ L (drI L q i).1, spV L (drI L q i).1 (drI L q i).2)
def drL (L : List Int) (q : Int × Int) : Nat → List Nat
  | 0 => []
  | i + 1 => drL L q i ++ [spLen L (drI L q i).1, (drI L q (i + 1)).2, spTen L (drI L q i).1]
def drW (L : List Int) (q : Int × Int) : List Nat := drL L q (drN L q)
def drQ (L : List Int) (q : Int × Int) : Int × Int := (drI L q (drN L q)).1
theorem drL_len (L : List Int) (q : Int × Int) : ∀ i, (drL L q i).length = i * 3
  | 0 => rfl
  | i + 1 => by simp only [drL, List.length_append, drL_len L q i, List.length_cons, List.length_nil]; omega
def qIn (N : Int) (q : Int × Int) : Prop := 0 ≤ q.1 ∧ q.1 ≤ N
theorem qIn_pk {N : Int} {L : List Int} {k : Int} {q : Int × Int} (h : qIn N q) : qIn (N + 2) (pkQ L k q) := by
  have := pkQ_bd (L := L) (k := k) (q := q)
  unfold qIn at *
  omega
theorem qIn_le {N M : Int} {q : Int × Int} (h : qIn N q) (hM : N ≤ M) : qIn M q := ⟨h.1, Int.le_trans h.2 hM⟩
theorem drQ4_in {N : Int} {L : List Int} {q : Int × Int} (h : qIn N q) : qIn (N + 8) (drQ4 L q) := by
  have h4 := qIn_pk (L := L) (k := 4) (qIn_pk (L := L) (k := 40) (qIn_pk (L := L) (k := 20) (qIn_pk (L := L) (k := 4) h)))
  exact qIn_le h4 (by omega)
theorem spQb_in {N : Int} {L : List Int} {q : Int × Int} (h : qIn N q) : qIn (N + 4) (spQb L q) := by
  unfold spQb spQa
  split
  · exact qIn_le (qIn_pk (qIn_pk h)) (by omega)
  · exact qIn_le (qIn_pk h) (by omega)
theorem spQ_in {N : Int} {L : List Int} {q : Int × Int} (h : qIn N q) : qIn (N + 8) (spQ L q) := qIn_le (qIn_pk (qIn_pk (spQb_in h))) (by omega)
theorem drI_in {N : Int} {L : List Int} {q : Int × Int} (h : qIn N q) : ∀ i : Nat, qIn (N + 8 + 8 * (i : Int)) (drI L q i).1
  | 0 => qIn_le (drQ4_in h) (by omega)
  | i + 1 => qIn_le (spQ_in (drI_in h i)) (by omega)
theorem drK_bd {L : List Int} (h : bytesOk L) (q : Int × Int) : 1 ≤ drK L q ∧ drK L q ≤ 4 := by
  have := pkV_bd h (k := 4) (by decide) (drQ3 L q)
  unfold drK
  omega
theorem in_lt {i N : Nat} {K : Int} (h : (N : Int) = K) (h2 : 0 < K - (i : Int)) : i < N := by omega
theorem in_eq {i N : Nat} {K : Int} (h : (N : Int) = K) (h2 : ¬ 0 < K - (i : Int)) (h3 : i ≤ N) : i = N := by omega
theorem drN_bd {L : List Int} (h : bytesOk L) (q : Int × Int) : 1 ≤ drN L q ∧ drN L q ≤ 4 ∧ (drN L q : Int) = drK L q := by
  have := drK_bd h q
  unfold drN
  omega
theorem fn82 : FnOk Try.prog 82 Try.f82 (bodyOf Try.f82) := ⟨Try.func82, rfl, by rfl⟩
def s82 : Spec := hspec fun args H => match args, H with
  | [.c (.p 0 (.l 0))], [some ⟨true, 0, .lit [.sl 1 (.x o) (.x n), .i .i64 (.x a), .i .u64 (.x s)]⟩, some ⟨false, 0, .it .u8 L⟩] => some (.a [.f .f32 fun _ => drSt (L ()) (a (), s ()), .f .f32 fun _ => drSp (L ()) (a (), s ()), .f .f32 fun _ => drFd (L ()) (a (), s ()), .sl 2 (.l 0) (.x fun _ => drN (L ()) (a (), s ()))], [some ⟨true, 0, .lit [.sl 1 (.x o) (.x n), .i .i64 (.x fun _ => (drQ (L ()) (a (), s ())).1), .i .u64 (.x fun _ => (drQ (L ()) (a (), s ())).2)]⟩, some ⟨false, 0, .it .u8 L⟩, some ⟨true, 3, .fl fun _ => drW (L ()) (a (), s ())⟩], [fun _ => 0 ≤ a () ∧ a () ≤ 100000, fun _ => o () = 0 ∧ (L ()).length = n () ∧ n () ≤ 4096 ∧ bytesOk (L ()), fun _ => a () ≤ 1000])
  | [.c (.p 0 (.l 0))], [some ⟨true, 0, .lit [.sn, .i .i64 (.x a), .i .u64 (.x s)]⟩] => some (.a [.f .f32 fun _ => drSt [] (a (), s ()), .f .f32 fun _ => drSp [] (a (), s ()), .f .f32 fun _ => drFd [] (a (), s ()), .sl 1 (.l 0) (.x fun _ => drN [] (a (), s ()))], [some ⟨true, 0, .lit [.sn, .i .i64 (.x fun _ => (drQ [] (a (), s ())).1), .i .u64 (.x fun _ => (drQ [] (a (), s ())).2)]⟩, some ⟨true, 3, .fl fun _ => drW [] (a (), s ())⟩], [fun _ => 0 ≤ a () ∧ a () ≤ 100000, fun _ => a () ≤ 1000])
  | _, _ => none
def E82 : Env := fun g => envGetL [(131, ⟨false, s131, none⟩), (84, ⟨false, s84, none⟩), (132, ⟨false, s132, none⟩)] g
theorem E82ok : EnvOk Try.prog E82 := envOk_cons ok131 (envOk_cons ok84 (envOk_cons ok132 (envOk_nil _)))
set_option maxRecDepth 100000 in
set_option maxHeartbeats 2000000 in
theorem ok82 : Ok Try.prog 82 (s82) := ok_of_wpaH (E := E82) mixed tts E82ok fn82 fun args H v H' o hs ho => by
  split at hs
  · rename_i o n a s L
    cases hs
    obtain ⟨⟨ha0, ha1⟩, ⟨ho0, hlen, hbig, hby⟩, hx0⟩ := ho.three
    try simp only [Unit.unit] at ha0 ha1 ho0 hlen hbig hx0
    refine ⟨_, HLe.refl _, ?_⟩
    cbv
    have hq0 : qIn 1000 (a ⟨⟩, s ⟨⟩) := ⟨ha0, hx0⟩
    have hq1 : qIn 1002 (drQ1 (L ⟨⟩) (a ⟨⟩, s ⟨⟩)) := qIn_pk hq0
    have hq2 : qIn 1004 (drQ2 (L ⟨⟩) (a ⟨⟩, s ⟨⟩)) := qIn_pk hq1
    have hq3 : qIn 1006 (drQ3 (L ⟨⟩) (a ⟨⟩, s ⟨⟩)) := qIn_pk hq2
    have hK := drK_bd hby (a ⟨⟩, s ⟨⟩)
    have hN := drN_bd hby (a ⟨⟩, s ⟨⟩)
    have hwK : IntKind.wrap .i64 (1 + pkV (L ⟨⟩) 4 (drQ3 (L ⟨⟩) (a ⟨⟩, s ⟨⟩))) = drK (L ⟨⟩) (a ⟨⟩, s ⟨⟩) := wrap64 (Int.le_trans (by decide) hK.1) (Int.le_trans hK.2 (by decide))
    repeat' first
      | (refine Ob.mk ?_ ?_; rotate_left; cbv)
      | (refine Lex.mk (by decide +kernel) ?_; cbv)
    rotate_left
    all_goals try (first | exact ⟨hq0.1, Int.le_trans hq0.2 (by decide)⟩ | exact Int.le_trans hq0.2 (by decide) | exact ⟨hq1.1, Int.le_trans hq1.2 (by decide)⟩ | exact Int.le_trans hq1.2 (by decide) | exact ⟨hq2.1, Int.le_trans hq2.2 (by decide)⟩ | exact Int.le_trans hq2.2 (by decide) | exact ⟨hq3.1, Int.le_trans hq3.2 (by decide)⟩ | exact Int.le_trans hq3.2 (by decide) | exact ⟨ho0, hlen, hbig, hby⟩ | exact ⟨by trivial, hlen, hbig, hby⟩ | exact ⟨rfl, rfl, by decide, by decide⟩)
    refine loop_rule (α := (Unit → Nat) ⊕ (Unit → Nat)) (c := ⟨tt, E82, 2⟩)
        (fun a' => match a' with | .inl _ => fr 60 [(0, .c (.p 0 (.l 0))), (2, .c (.p 2 (.l 0))), (3, .c (.p 4 (.l 0))), (4, .c (.f .f32 fun _ => drSp (L ()) (a (), s ()))), (5, .c (.i .i64 (.x fun _ => drK (L ()) (a (), s ()))))] | .inr i => fr 60 [(0, .c (.p 0 (.l 0))), (2, .c (.p 2 (.l 0))), (3, .c (.p 4 (.l 0))), (4, .c (.f .f32 fun _ => (drI (L ()) (a (), s ()) (i ())).2)), (5, .c (.i .i64 (.x fun _ => drK (L ()) (a (), s ()) - (i () : Int))))]) (fun a' => match a' with | .inl _ => [some ⟨true, 0, .lit [.sl 1 (.x o) (.x n), .i .i64 (.x fun _ => (drQ4 (L ()) (a (), s ())).1), .i .u64 (.x fun _ => (drQ4 (L ()) (a (), s ())).2)]⟩, some ⟨false, 0, .it .u8 L⟩, some ⟨true, 0, .lit [.f .f32 fun _ => 0, .f .f32 fun _ => 0, .f .f32 fun _ => 0, .sn]⟩, none, some ⟨true, 0, .lit [.f .f32 fun _ => drSt (L ()) (a (), s ()), .f .f32 fun _ => drSp (L ()) (a (), s ()), .f .f32 fun _ => drFd (L ()) (a (), s ()), .sn]⟩] | .inr i => [some ⟨true, 0, .lit [.sl 1 (.x o) (.x n), .i .i64 (.x fun _ => ((drI (L ()) (a (), s ()) (i ())).1).1), .i .u64 (.x fun _ => ((drI (L ()) (a (), s ()) (i ())).1).2)]⟩, some ⟨false, 0, .it .u8 L⟩, some ⟨true, 0, .lit [.f .f32 fun _ => 0, .f .f32 fun _ => 0, .f .f32 fun _ => 0, .sn]⟩, none, some ⟨true, 0, .lit [.f .f32 fun _ => drSt (L ()) (a (), s ()), .f .f32 fun _ => drSp (L ()) (a (), s ()), .f .f32 fun _ => drFd (L ()) (a (), s ()), .sl 5 (.l 0) (.x fun _ => i ())]⟩, some ⟨true, 3, .fl fun _ => drL (L ()) (a (), s ()) (i ())⟩])
        (fun a' => match a' with | .inl _ => True | .inr i => 1 ≤ i () ∧ i () ≤ drN (L ()) (a (), s ())) (fun a' => match a' with | .inl _ => drN (L ()) (a (), s ()) + 1 | .inr i => drN (L ()) (a (), s ()) - i ()) (fun _ => drN (L ()) (a (), s ()) + 2) ?_ ?_
    · refine .mk (.inl fun _ => 0) trivial (by dsimp only; omega) ?_
      cbv
      repeat' (refine Ob.mk ?_ ?_; rotate_left)
      all_goals (try simp only [Unit.unit, Int.ofNat_lt, Int.ofNat_le, BE.val, IE.val, NE.val, ltB_iff, ltB_no, leB_iff, leB_no, Int.toNat_natCast, Nat.zero_add, Nat.add_zero, Nat.mul_one, forced, beq_iff_eq, beq_eq_false_iff_ne, bne_iff_ne, bne_eq_false_iff_eq] at *)
      all_goals first | with_reducible rfl | trivial | exact hwK | rfl
    · rintro (i | i) hi
      · cbv
        refine Br.mk (fun hk => ?_) (fun hk => ?_)
        · clear hk
          have f1 : qIn 2000 ((drI (L ⟨⟩) (a ⟨⟩, s ⟨⟩) (0)).1) := qIn_le (drI_in hq0 (0)) (by omega)
          have hkn : IntKind.wrap .i64 (drK (L ⟨⟩) (a ⟨⟩, s ⟨⟩) - 0 - 1) = drK (L ⟨⟩) (a ⟨⟩, s ⟨⟩) - ((0 + 1 : Nat) : Int) := by rw [wrap64 (by omega) (by omega)]; omega
          have hkn : IntKind.wrap .i64 (drK (L ⟨⟩) (a ⟨⟩, s ⟨⟩) - 1) = drK (L ⟨⟩) (a ⟨⟩, s ⟨⟩) - ((1 : Nat) : Int) := by rw [wrap64 (by omega) (by omega)]; omega
          have hln := drL_len (L ⟨⟩) (a ⟨⟩, s ⟨⟩) (0)
          cbv
          repeat' (refine Ob.mk ?_ ?_; rotate_left; cbv)
          rotate_left
          all_goals try (first | exact ⟨f1.1, Int.le_trans f1.2 (by decide)⟩ | exact Int.le_trans f1.2 (by decide) | exact ⟨ho0, hlen, hbig, hby⟩ | exact ⟨by trivial, hlen, hbig, hby⟩)
          refine Br.mk (fun hy => ?_) (fun hy => ?_)
          · have hy : spY (L ⟨⟩) ((drI (L ⟨⟩) (a ⟨⟩, s ⟨⟩) (0)).1) = true := hy
            have e1 : spV (L ⟨⟩) ((drI (L ⟨⟩) (a ⟨⟩, s ⟨⟩) (0)).1) ((drI (L ⟨⟩) (a ⟨⟩, s ⟨⟩) (0)).2) = fop .add .f32 ((drI (L ⟨⟩) (a ⟨⟩, s ⟨⟩) (0)).2) (fop .quo .f32 (floatOfInt .f32 (IntKind.wrap .i64 (pkV (L ⟨⟩) 9 (pkQ (L ⟨⟩) 2 (drI (L ⟨⟩) (a ⟨⟩, s ⟨⟩) (0)).1) - 3))) 1115684864) := if_pos hy
            have e2 : spQb (L ⟨⟩) ((drI (L ⟨⟩) (a ⟨⟩, s ⟨⟩) (0)).1) = pkQ (L ⟨⟩) 9 (pkQ (L ⟨⟩) 2 (drI (L ⟨⟩) (a ⟨⟩, s ⟨⟩) (0)).1) := if_pos hy
            have e3 : spQ (L ⟨⟩) ((drI (L ⟨⟩) (a ⟨⟩, s ⟨⟩) (0)).1) = pkQ (L ⟨⟩) 80 (pkQ (L ⟨⟩) 30 (pkQ (L ⟨⟩) 9 (pkQ (L ⟨⟩) 2 (drI (L ⟨⟩) (a ⟨⟩, s ⟨⟩) (0)).1))) := by unfold spQ spQc; rw [e2]
            have e4 : spLen (L ⟨⟩) ((drI (L ⟨⟩) (a ⟨⟩, s ⟨⟩) (0)).1) = fop .quo .f32 (floatOfInt .f32 (IntKind.wrap .i64 (2 + pkV (L ⟨⟩) 30 (pkQ (L ⟨⟩) 9 (pkQ (L ⟨⟩) 2 (drI (L ⟨⟩) (a ⟨⟩, s ⟨⟩) (0)).1))))) 1073741824 := by unfold spLen; rw [e2]
            have e5 : spTen (L ⟨⟩) ((drI (L ⟨⟩) (a ⟨⟩, s ⟨⟩) (0)).1) = fop .quo .f32 (floatOfInt .f32 (IntKind.wrap .i64 (pkV (L ⟨⟩) 80 (pkQ (L ⟨⟩) 30 (pkQ (L ⟨⟩) 9 (pkQ (L ⟨⟩) 2 (drI (L ⟨⟩) (a ⟨⟩, s ⟨⟩) (0)).1))) - 8))) 1082130432 := by unfold spTen spQc; rw [e2]
            have e6 : drL (L ⟨⟩) (a ⟨⟩, s ⟨⟩) (0 + 1) = drL (L ⟨⟩) (a ⟨⟩, s ⟨⟩) (0) ++ [fop .quo .f32 (floatOfInt .f32 (IntKind.wrap .i64 (2 + pkV (L ⟨⟩) 30 (pkQ (L ⟨⟩) 9 (pkQ (L ⟨⟩) 2 (drI (L ⟨⟩) (a ⟨⟩, s ⟨⟩) (0)).1))))) 1073741824, fop .add .f32 ((drI (L ⟨⟩) (a ⟨⟩, s ⟨⟩) (0)).2) (fop .quo .f32 (floatOfInt .f32 (IntKind.wrap .i64 (pkV (L ⟨⟩) 9 (pkQ (L ⟨⟩) 2 (drI (L ⟨⟩) (a ⟨⟩, s ⟨⟩) (0)).1) - 3))) 1115684864), fop .quo .f32 (floatOfInt .f32 (IntKind.wrap .i64 (pkV (L ⟨⟩) 80 (pkQ (L ⟨⟩) 30 (pkQ (L ⟨⟩) 9 (pkQ (L ⟨⟩) 2 (drI (L ⟨⟩) (a ⟨⟩, s ⟨⟩) (0)).1))) - 8))) 1082130432] := by
              show drL (L ⟨⟩) (a ⟨⟩, s ⟨⟩) (0) ++ [spLen (L ⟨⟩) ((drI (L ⟨⟩) (a ⟨⟩, s ⟨⟩) (0)).1), spV (L ⟨⟩) ((drI (L ⟨⟩) (a ⟨⟩, s ⟨⟩) (0)).1) ((drI (L ⟨⟩) (a ⟨⟩, s ⟨⟩) (0)).2), spTen (L ⟨⟩) ((drI (L ⟨⟩) (a ⟨⟩, s ⟨⟩) (0)).1)] = _
              rw [e1, e4, e5]
            have f2 : qIn 2002 (pkQ (L ⟨⟩) 2 ((drI (L ⟨⟩) (a ⟨⟩, s ⟨⟩) (0)).1)) := qIn_pk f1
            have f3 : qIn 2004 (pkQ (L ⟨⟩) 9 (pkQ (L ⟨⟩) 2 (drI (L ⟨⟩) (a ⟨⟩, s ⟨⟩) (0)).1)) := qIn_pk f2
            have f4 : qIn 2006 (pkQ (L ⟨⟩) 30 (pkQ (L ⟨⟩) 9 (pkQ (L ⟨⟩) 2 (drI (L ⟨⟩) (a ⟨⟩, s ⟨⟩) (0)).1))) := qIn_le (qIn_pk f3) (by decide)
            have f5 : qIn 2008 (pkQ (L ⟨⟩) 80 (pkQ (L ⟨⟩) 30 (pkQ (L ⟨⟩) 9 (pkQ (L ⟨⟩) 2 (drI (L ⟨⟩) (a ⟨⟩, s ⟨⟩) (0)).1)))) := qIn_le (qIn_pk f4) (by decide)
            cbv
            repeat' first
              | (refine Ob.mk ?_ ?_; rotate_left; cbv)
              | (refine Lex.mk (by decide +kernel) ?_; cbv)
              | (refine Next.ren [2, 3, 4, 7] (.inr fun _ => 1) ?_ ?_ ?_)
            all_goals try (first | exact ⟨f1.1, Int.le_trans f1.2 (by decide)⟩ | exact Int.le_trans f1.2 (by decide) | exact ⟨f2.1, Int.le_trans f2.2 (by decide)⟩ | exact Int.le_trans f2.2 (by decide) | exact ⟨f3.1, Int.le_trans f3.2 (by decide)⟩ | exact Int.le_trans f3.2 (by decide) | exact ⟨f4.1, Int.le_trans f4.2 (by decide)⟩ | exact Int.le_trans f4.2 (by decide) | exact ⟨f5.1, Int.le_trans f5.2 (by decide)⟩ | exact Int.le_trans f5.2 (by decide) | exact ⟨ho0, hlen, hbig, hby⟩ | exact ⟨by trivial, hlen, hbig, hby⟩ | exact (congrArg Prod.fst e3).symm | exact (congrArg Prod.snd e3).symm | exact e1.symm | exact e6.symm | exact hkn | exact hln)
            all_goals (try simp only [Unit.unit, Int.ofNat_lt, Int.ofNat_le, BE.val, IE.val, NE.val, ltB_iff, ltB_no, leB_iff, leB_no, Int.toNat_natCast, Nat.zero_add, Nat.add_zero, Nat.mul_one, forced, beq_iff_eq, beq_eq_false_iff_ne, bne_iff_ne, bne_eq_false_iff_eq] at *)
            all_goals first | with_reducible rfl | trivial | omega | exact ⟨by omega, by omega⟩ | exact hkn | exact hln | exact (congrArg Prod.fst e3).symm | exact (congrArg Prod.snd e3).symm | exact e1.symm | exact e6.symm | rfl
          · have hy : spY (L ⟨⟩) ((drI (L ⟨⟩) (a ⟨⟩, s ⟨⟩) (0)).1) = false := hy
            have e1 : spV (L ⟨⟩) ((drI (L ⟨⟩) (a ⟨⟩, s ⟨⟩) (0)).1) ((drI (L ⟨⟩) (a ⟨⟩, s ⟨⟩) (0)).2) = (drI (L ⟨⟩) (a ⟨⟩, s ⟨⟩) (0)).2 := if_neg (by rw [hy]; decide)
            have e2 : spQb (L ⟨⟩) ((drI (L ⟨⟩) (a ⟨⟩, s ⟨⟩) (0)).1) = pkQ (L ⟨⟩) 2 (drI (L ⟨⟩) (a ⟨⟩, s ⟨⟩) (0)).1 := if_neg (by rw [hy]; decide)
            have e3 : spQ (L ⟨⟩) ((drI (L ⟨⟩) (a ⟨⟩, s ⟨⟩) (0)).1) = pkQ (L ⟨⟩) 80 (pkQ (L ⟨⟩) 30 (pkQ (L ⟨⟩) 2 (drI (L ⟨⟩) (a ⟨⟩, s ⟨⟩) (0)).1)) := by unfold spQ spQc; rw [e2]
            have e4 : spLen (L ⟨⟩) ((drI (L ⟨⟩) (a ⟨⟩, s ⟨⟩) (0)).1) = fop .quo .f32 (floatOfInt .f32 (IntKind.wrap .i64 (2 + pkV (L ⟨⟩) 30 (pkQ (L ⟨⟩) 2 (drI (L ⟨⟩) (a ⟨⟩, s ⟨⟩) (0)).1)))) 1073741824 := by unfold spLen; rw [e2]
            have e5 : spTen (L ⟨⟩) ((drI (L ⟨⟩) (a ⟨⟩, s ⟨⟩) (0)).1) = fop .quo .f32 (floatOfInt .f32 (IntKind.wrap .i64 (pkV (L ⟨⟩) 80 (pkQ (L ⟨⟩) 30 (pkQ (L ⟨⟩) 2 (drI (L ⟨⟩) (a ⟨⟩, s ⟨⟩) (0)).1)) - 8))) 1082130432 := by unfold spTen spQc; rw [e2]
            have e6 : drL (L ⟨⟩) (a ⟨⟩, s ⟨⟩) (0 + 1) = drL (L ⟨⟩) (a ⟨⟩, s ⟨⟩) (0) ++ [fop .quo .f32 (floatOfInt .f32 (IntKind.wrap .i64 (2 + pkV (L ⟨⟩) 30 (pkQ (L ⟨⟩) 2 (drI (L ⟨⟩) (a ⟨⟩, s ⟨⟩) (0)).1)))) 1073741824, (drI (L ⟨⟩) (a ⟨⟩, s ⟨⟩) (0)).2, fop .quo .f32 (floatOfInt .f32 (IntKind.wrap .i64 (pkV (L ⟨⟩) 80 (pkQ (L ⟨⟩) 30 (pkQ (L ⟨⟩) 2 (drI (L ⟨⟩) (a ⟨⟩, s ⟨⟩) (0)).1)) - 8))) 1082130432] := by
              show drL (L ⟨⟩) (a ⟨⟩, s ⟨⟩) (0) ++ [spLen (L ⟨⟩) ((drI (L ⟨⟩) (a ⟨⟩, s ⟨⟩) (0)).1), spV (L ⟨⟩) ((drI (L ⟨⟩) (a ⟨⟩, s ⟨⟩) (0)).1) ((drI (L ⟨⟩) (a ⟨⟩, s ⟨⟩) (0)).2), spTen (L ⟨⟩) ((drI (L ⟨⟩) (a ⟨⟩, s ⟨⟩) (0)).1)] = _
              rw [e1, e4, e5]
            have f2 : qIn 2002 (pkQ (L ⟨⟩) 2 ((drI (L ⟨⟩) (a ⟨⟩, s ⟨⟩) (0)).1)) := qIn_pk f1
            have f4 : qIn 2006 (pkQ (L ⟨⟩) 30 (pkQ (L ⟨⟩) 2 (drI (L ⟨⟩) (a ⟨⟩, s ⟨⟩) (0)).1)) := qIn_le (qIn_pk f2) (by decide)
            have f5 : qIn 2008 (pkQ (L ⟨⟩) 80 (pkQ (L ⟨⟩) 30 (pkQ (L ⟨⟩) 2 (drI (L ⟨⟩) (a ⟨⟩, s ⟨⟩) (0)).1))) := qIn_le (qIn_pk f4) (by decide)
            cbv
            repeat' first
              | (refine Ob.mk ?_ ?_; rotate_left; cbv)
              | (refine Lex.mk (by decide +kernel) ?_; cbv)
              | (refine Next.ren [2, 3, 4, 7] (.inr fun _ => 1) ?_ ?_ ?_)
            all_goals try (first | exact ⟨f1.1, Int.le_trans f1.2 (by decide)⟩ | exact Int.le_trans f1.2 (by decide) | exact ⟨f2.1, Int.le_trans f2.2 (by decide)⟩ | exact Int.le_trans f2.2 (by decide) | exact ⟨f4.1, Int.le_trans f4.2 (by decide)⟩ | exact Int.le_trans f4.2 (by decide) | exact ⟨f5.1, Int.le_trans f5.2 (by decide)⟩ | exact Int.le_trans f5.2 (by decide) | exact ⟨ho0, hlen, hbig, hby⟩ | exact ⟨by trivial, hlen, hbig, hby⟩ | exact (congrArg Prod.fst e3).symm | exact (congrArg Prod.snd e3).symm | exact e1.symm | exact e6.symm | exact hkn | exact hln)
            all_goals (try simp only [Unit.unit, Int.ofNat_lt, Int.ofNat_le, BE.val, IE.val, NE.val, ltB_iff, ltB_no, leB_iff, leB_no, Int.toNat_natCast, Nat.zero_add, Nat.add_zero, Nat.mul_one, forced, beq_iff_eq, beq_eq_false_iff_ne, bne_iff_ne, bne_eq_false_iff_eq] at *)
            all_goals first | with_reducible rfl | trivial | omega | exact ⟨by omega, by omega⟩ | exact hkn | exact hln | exact (congrArg Prod.fst e3).symm | exact (congrArg Prod.snd e3).symm | exact e1.symm | exact e6.symm | rfl
        · exfalso
          have h2 := ltB_no.1 hk
          exact h2 (Int.lt_of_lt_of_le (by decide) hK.1)
      · have hi1 : 1 ≤ i ⟨⟩ := hi.1
        have hi2 : i ⟨⟩ ≤ drN (L ⟨⟩) (a ⟨⟩, s ⟨⟩) := hi.2
        cbv
        refine Br.mk (fun hk => ?_) (fun hk => ?_)
        · have hin : i ⟨⟩ < drN (L ⟨⟩) (a ⟨⟩, s ⟨⟩) := in_lt hN.2.2 (ltB_iff.1 hk)
          clear hk
          have f1 : qIn 2000 ((drI (L ⟨⟩) (a ⟨⟩, s ⟨⟩) (i ⟨⟩)).1) := qIn_le (drI_in hq0 (i ⟨⟩)) (by omega)
          have hkn : IntKind.wrap .i64 (drK (L ⟨⟩) (a ⟨⟩, s ⟨⟩) - (i ⟨⟩ : Int) - 1) = drK (L ⟨⟩) (a ⟨⟩, s ⟨⟩) - ((i ⟨⟩ + 1 : Nat) : Int) := by rw [wrap64 (by omega) (by omega)]; omega
          have hln := drL_len (L ⟨⟩) (a ⟨⟩, s ⟨⟩) (i ⟨⟩)
          cbv
          repeat' (refine Ob.mk ?_ ?_; rotate_left; cbv)
          rotate_left
          all_goals try (first | exact ⟨f1.1, Int.le_trans f1.2 (by decide)⟩ | exact Int.le_trans f1.2 (by decide) | exact ⟨ho0, hlen, hbig, hby⟩ | exact ⟨by trivial, hlen, hbig, hby⟩)
          refine Br.mk (fun hy => ?_) (fun hy => ?_)
          · have hy : spY (L ⟨⟩) ((drI (L ⟨⟩) (a ⟨⟩, s ⟨⟩) (i ⟨⟩)).1) = true := hy
            have e1 : spV (L ⟨⟩) ((drI (L ⟨⟩) (a ⟨⟩, s ⟨⟩) (i ⟨⟩)).1) ((drI (L ⟨⟩) (a ⟨⟩, s ⟨⟩) (i ⟨⟩)).2) = fop .add .f32 ((drI (L ⟨⟩) (a ⟨⟩, s ⟨⟩) (i ⟨⟩)).2) (fop .quo .f32 (floatOfInt .f32 (IntKind.wrap .i64 (pkV (L ⟨⟩) 9 (pkQ (L ⟨⟩) 2 (drI (L ⟨⟩) (a ⟨⟩, s ⟨⟩) (i ⟨⟩)).1) - 3))) 1115684864) := if_pos hy
            have e2 : spQb (L ⟨⟩) ((drI (L ⟨⟩) (a ⟨⟩, s ⟨⟩) (i ⟨⟩)).1) = pkQ (L ⟨⟩) 9 (pkQ (L ⟨⟩) 2 (drI (L ⟨⟩) (a ⟨⟩, s ⟨⟩) (i ⟨⟩)).1) := if_pos hy
            have e3 : spQ (L ⟨⟩) ((drI (L ⟨⟩) (a ⟨⟩, s ⟨⟩) (i ⟨⟩)).1) = pkQ (L ⟨⟩) 80 (pkQ (L ⟨⟩) 30 (pkQ (L ⟨⟩) 9 (pkQ (L ⟨⟩) 2 (drI (L ⟨⟩) (a ⟨⟩, s ⟨⟩) (i ⟨⟩)).1))) := by unfold spQ spQc; rw [e2]
            have e4 : spLen (L ⟨⟩) ((drI (L ⟨⟩) (a ⟨⟩, s ⟨⟩) (i ⟨⟩)).1) = fop .quo .f32 (floatOfInt .f32 (IntKind.wrap .i64 (2 + pkV (L ⟨⟩) 30 (pkQ (L ⟨⟩) 9 (pkQ (L ⟨⟩) 2 (drI (L ⟨⟩) (a ⟨⟩, s ⟨⟩) (i ⟨⟩)).1))))) 1073741824 := by unfold spLen; rw [e2]
            have e5 : spTen (L ⟨⟩) ((drI (L ⟨⟩) (a ⟨⟩, s ⟨⟩) (i ⟨⟩)).1) = fop .quo .f32 (floatOfInt .f32 (IntKind.wrap .i64 (pkV (L ⟨⟩) 80 (pkQ (L ⟨⟩) 30 (pkQ (L ⟨⟩) 9 (pkQ (L ⟨⟩) 2 (drI (L ⟨⟩) (a ⟨⟩, s ⟨⟩) (i ⟨⟩)).1))) - 8))) 1082130432 := by unfold spTen spQc; rw [e2]
            have e6 : drL (L ⟨⟩) (a ⟨⟩, s ⟨⟩) (i ⟨⟩ + 1) = drL (L ⟨⟩) (a ⟨⟩, s ⟨⟩) (i ⟨⟩) ++ [fop .quo .f32 (floatOfInt .f32 (IntKind.wrap .i64 (2 + pkV (L ⟨⟩) 30 (pkQ (L ⟨⟩) 9 (pkQ (L ⟨⟩) 2 (drI (L ⟨⟩) (a ⟨⟩, s ⟨⟩) (i ⟨⟩)).1))))) 1073741824, fop .add .f32 ((drI (L ⟨⟩) (a ⟨⟩, s ⟨⟩) (i ⟨⟩)).2) (fop .quo .f32 (floatOfInt .f32 (IntKind.wrap .i64 (pkV (L ⟨⟩) 9 (pkQ (L ⟨⟩) 2 (drI (L ⟨⟩) (a ⟨⟩, s ⟨⟩) (i ⟨⟩)).1) - 3))) 1115684864), fop .quo .f32 (floatOfInt .f32 (IntKind.wrap .i64 (pkV (L ⟨⟩) 80 (pkQ (L ⟨⟩) 30 (pkQ (L ⟨⟩) 9 (pkQ (L ⟨⟩) 2 (drI (L ⟨⟩) (a ⟨⟩, s ⟨⟩) (i ⟨⟩)).1))) - 8))) 1082130432] := by
              show drL (L ⟨⟩) (a ⟨⟩, s ⟨⟩) (i ⟨⟩) ++ [spLen (L ⟨⟩) ((drI (L ⟨⟩) (a ⟨⟩, s ⟨⟩) (i ⟨⟩)).1), spV (L ⟨⟩) ((drI (L ⟨⟩) (a ⟨⟩, s ⟨⟩) (i ⟨⟩)).1) ((drI (L ⟨⟩) (a ⟨⟩, s ⟨⟩) (i ⟨⟩)).2), spTen (L ⟨⟩) ((drI (L ⟨⟩) (a ⟨⟩, s ⟨⟩) (i ⟨⟩)).1)] = _
              rw [e1, e4, e5]
            have f2 : qIn 2002 (pkQ (L ⟨⟩) 2 ((drI (L ⟨⟩) (a ⟨⟩, s ⟨⟩) (i ⟨⟩)).1)) := qIn_pk f1
            have f3 : qIn 2004 (pkQ (L ⟨⟩) 9 (pkQ (L ⟨⟩) 2 (drI (L ⟨⟩) (a ⟨⟩, s ⟨⟩) (i ⟨⟩)).1)) := qIn_pk f2
            have f4 : qIn 2006 (pkQ (L ⟨⟩) 30 (pkQ (L ⟨⟩) 9 (pkQ (L ⟨⟩) 2 (drI (L ⟨⟩) (a ⟨⟩, s ⟨⟩) (i ⟨⟩)).1))) := qIn_le (qIn_pk f3) (by decide)
            have f5 : qIn 2008 (pkQ (L ⟨⟩) 80 (pkQ (L ⟨⟩) 30 (pkQ (L ⟨⟩) 9 (pkQ (L ⟨⟩) 2 (drI (L ⟨⟩) (a ⟨⟩, s ⟨⟩) (i ⟨⟩)).1)))) := qIn_le (qIn_pk f4) (by decide)
            cbv
            repeat' first
              | (refine Ob.mk ?_ ?_; rotate_left; cbv)
              | (refine Lex.mk (by decide +kernel) ?_; cbv)
              | (refine Next.ren [2, 3, 4, 8] (.inr fun _ => i () + 1) ?_ ?_ ?_)
            all_goals try (first | exact ⟨f1.1, Int.le_trans f1.2 (by decide)⟩ | exact Int.le_trans f1.2 (by decide) | exact ⟨f2.1, Int.le_trans f2.2 (by decide)⟩ | exact Int.le_trans f2.2 (by decide) | exact ⟨f3.1, Int.le_trans f3.2 (by decide)⟩ | exact Int.le_trans f3.2 (by decide) | exact ⟨f4.1, Int.le_trans f4.2 (by decide)⟩ | exact Int.le_trans f4.2 (by decide) | exact ⟨f5.1, Int.le_trans f5.2 (by decide)⟩ | exact Int.le_trans f5.2 (by decide) | exact ⟨ho0, hlen, hbig, hby⟩ | exact ⟨by trivial, hlen, hbig, hby⟩ | exact (congrArg Prod.fst e3).symm | exact (congrArg Prod.snd e3).symm | exact e1.symm | exact e6.symm | exact hkn | exact hln)
            all_goals (try simp only [Unit.unit, Int.ofNat_lt, Int.ofNat_le, BE.val, IE.val, NE.val, ltB_iff, ltB_no, leB_iff, leB_no, Int.toNat_natCast, Nat.zero_add, Nat.add_zero, Nat.mul_one, forced, beq_iff_eq, beq_eq_false_iff_ne, bne_iff_ne, bne_eq_false_iff_eq] at *)
            all_goals first | with_reducible rfl | trivial | omega | exact ⟨by omega, by omega⟩ | exact hkn | exact hln | exact (congrArg Prod.fst e3).symm | exact (congrArg Prod.snd e3).symm | exact e1.symm | exact e6.symm | rfl
          · have hy : spY (L ⟨⟩) ((drI (L ⟨⟩) (a ⟨⟩, s ⟨⟩) (i ⟨⟩)).1) = false := hy
            have e1 : spV (L ⟨⟩) ((drI (L ⟨⟩) (a ⟨⟩, s ⟨⟩) (i ⟨⟩)).1) ((drI (L ⟨⟩) (a ⟨⟩, s ⟨⟩) (i ⟨⟩)).2) = (drI (L ⟨⟩) (a ⟨⟩, s ⟨⟩) (i ⟨⟩)).2 := if_neg (by rw [hy]; decide)
            have e2 : spQb (L ⟨⟩) ((drI (L ⟨⟩) (a ⟨⟩, s ⟨⟩) (i ⟨⟩)).1) = pkQ (L ⟨⟩) 2 (drI (L ⟨⟩) (a ⟨⟩, s ⟨⟩) (i ⟨⟩)).1 := if_neg (by rw [hy]; decide)
            have e3 : spQ (L ⟨⟩) ((drI (L ⟨⟩) (a ⟨⟩, s ⟨⟩) (i ⟨⟩)).1) = pkQ (L ⟨⟩) 80 (pkQ (L ⟨⟩) 30 (pkQ (L ⟨⟩) 2 (drI (L ⟨⟩) (a ⟨⟩, s ⟨⟩) (i ⟨⟩)).1)) := by unfold spQ spQc; rw [e2]
            have e4 : spLen (L ⟨⟩) ((drI (L ⟨⟩) (a ⟨⟩, s ⟨⟩) (i ⟨⟩)).1) = fop .quo .f32 (floatOfInt .f32 (IntKind.wrap .i64 (2 + pkV (L ⟨⟩) 30 (pkQ (L ⟨⟩) 2 (drI (L ⟨⟩) (a ⟨⟩, s ⟨⟩) (i ⟨⟩)).1)))) 1073741824 := by unfold spLen; rw [e2]
            have e5 : spTen (L ⟨⟩) ((drI (L ⟨⟩) (a ⟨⟩, s ⟨⟩) (i ⟨⟩)).1) = fop .quo .f32 (floatOfInt .f32 (IntKind.wrap .i64 (pkV (L ⟨⟩) 80 (pkQ (L ⟨⟩) 30 (pkQ (L ⟨⟩) 2 (drI (L ⟨⟩) (a ⟨⟩, s ⟨⟩) (i ⟨⟩)).1)) - 8))) 1082130432 := by unfold spTen spQc; rw [e2]
            have e6 : drL (L ⟨⟩) (a ⟨⟩, s ⟨⟩) (i ⟨⟩ + 1) = drL (L ⟨⟩) (a ⟨⟩, s ⟨⟩) (i ⟨⟩) ++ [fop .quo .f32 (floatOfInt .f32 (IntKind.wrap .i64 (2 + pkV (L ⟨⟩) 30 (pkQ (L ⟨⟩) 2 (drI (L ⟨⟩) (a ⟨⟩, s ⟨⟩) (i ⟨⟩)).1)))) 1073741824, (drI (L ⟨⟩) (a ⟨⟩, s ⟨⟩) (i ⟨⟩)).2, fop .quo .f32 (floatOfInt .f32 (IntKind.wrap .i64 (pkV (L ⟨⟩) 80 (pkQ (L ⟨⟩) 30 (pkQ (L ⟨⟩) 2 (drI (L ⟨⟩) (a ⟨⟩, s ⟨⟩) (i ⟨⟩)).1)) - 8))) 1082130432] := by
              show drL (L ⟨⟩) (a ⟨⟩, s ⟨⟩) (i ⟨⟩) ++ [spLen (L ⟨⟩) ((drI (L ⟨⟩) (a ⟨⟩, s ⟨⟩) (i ⟨⟩)).1), spV (L ⟨⟩) ((drI (L ⟨⟩) (a ⟨⟩, s ⟨⟩) (i ⟨⟩)).1) ((drI (L ⟨⟩) (a ⟨⟩, s ⟨⟩) (i ⟨⟩)).2), spTen (L ⟨⟩) ((drI (L ⟨⟩) (a ⟨⟩, s ⟨⟩) (i ⟨⟩)).1)] = _
              rw [e1, e4, e5]
            have f2 : qIn 2002 (pkQ (L ⟨⟩) 2 ((drI (L ⟨⟩) (a ⟨⟩, s ⟨⟩) (i ⟨⟩)).1)) := qIn_pk f1
            have f4 : qIn 2006 (pkQ (L ⟨⟩) 30 (pkQ (L ⟨⟩) 2 (drI (L ⟨⟩) (a ⟨⟩, s ⟨⟩) (i ⟨⟩)).1)) := qIn_le (qIn_pk f2) (by decide)
            have f5 : qIn 2008 (pkQ (L ⟨⟩) 80 (pkQ (L ⟨⟩) 30 (pkQ (L ⟨⟩) 2 (drI (L ⟨⟩) (a ⟨⟩, s ⟨⟩) (i ⟨⟩)).1))) := qIn_le (qIn_pk f4) (by decide)
            cbv
            repeat' first
              | (refine Ob.mk ?_ ?_; rotate_left; cbv)
              | (refine Lex.mk (by decide +kernel) ?_; cbv)
              | (refine Next.ren [2, 3, 4, 8] (.inr fun _ => i () + 1) ?_ ?_ ?_)
            all_goals try (first | exact ⟨f1.1, Int.le_trans f1.2 (by decide)⟩ | exact Int.le_trans f1.2 (by decide) | exact ⟨f2.1, Int.le_trans f2.2 (by decide)⟩ | exact Int.le_trans f2.2 (by decide) | exact ⟨f4.1, Int.le_trans f4.2 (by decide)⟩ | exact Int.le_trans f4.2 (by decide) | exact ⟨f5.1, Int.le_trans f5.2 (by decide)⟩ | exact Int.le_trans f5.2 (by decide) | exact ⟨ho0, hlen, hbig, hby⟩ | exact ⟨by trivial, hlen, hbig, hby⟩ | exact (congrArg Prod.fst e3).symm | exact (congrArg Prod.snd e3).symm | exact e1.symm | exact e6.symm | exact hkn | exact hln)
            all_goals (try simp only [Unit.unit, Int.ofNat_lt, Int.ofNat_le, BE.val, IE.val, NE.val, ltB_iff, ltB_no, leB_iff, leB_no, Int.toNat_natCast, Nat.zero_add, Nat.add_zero, Nat.mul_one, forced, beq_iff_eq, beq_eq_false_iff_ne, bne_iff_ne, bne_eq_false_iff_eq] at *)
            all_goals first | with_reducible rfl | trivial | omega | exact ⟨by omega, by omega⟩ | exact hkn | exact hln | exact (congrArg Prod.fst e3).symm | exact (congrArg Prod.snd e3).symm | exact e1.symm | exact e6.symm | rfl
        · have hin : i ⟨⟩ = drN (L ⟨⟩) (a ⟨⟩, s ⟨⟩) := in_eq hN.2.2 (ltB_no.1 hk) hi2
          clear hk
          cbv
          repeat' (refine Ob.mk ?_ ?_; rotate_left; cbv)
          all_goals (try simp only [Unit.unit, Int.ofNat_lt, Int.ofNat_le, BE.val, IE.val, NE.val, ltB_iff, ltB_no, leB_iff, leB_no, Int.toNat_natCast, Nat.zero_add, Nat.add_zero, Nat.mul_one, forced, beq_iff_eq, beq_eq_false_iff_ne, bne_iff_ne, bne_eq_false_iff_eq] at *)
          all_goals first | with_reducible rfl | trivial | exact hin | exact hin.symm | (rw [hin]; done) | (rw [hin]; rfl) | rfl
  · rename_i a s
    cases hs
    obtain ⟨⟨ha0, ha1⟩, hx0⟩ := ho.two
    have hby := bytes_nil
    try simp only [Unit.unit] at ha0 ha1 hx0
    refine ⟨_, HLe.refl _, ?_⟩
    cbv
    have hq0 : qIn 1000 (a ⟨⟩, s ⟨⟩) := ⟨ha0, hx0⟩
    have hq1 : qIn 1002 (drQ1 [] (a ⟨⟩, s ⟨⟩)) := qIn_pk hq0
    have hq2 : qIn 1004 (drQ2 [] (a ⟨⟩, s ⟨⟩)) := qIn_pk hq1
    have hq3 : qIn 1006 (drQ3 [] (a ⟨⟩, s ⟨⟩)) := qIn_pk hq2
    have hK := drK_bd hby (a ⟨⟩, s ⟨⟩)
    have hN := drN_bd hby (a ⟨⟩, s ⟨⟩)
    have hwK : IntKind.wrap .i64 (1 + pkV [] 4 (drQ3 [] (a ⟨⟩, s ⟨⟩))) = drK [] (a ⟨⟩, s ⟨⟩) := wrap64 (Int.le_trans (by decide) hK.1) (Int.le_trans hK.2 (by decide))
    repeat' first
      | (refine Ob.mk ?_ ?_; rotate_left; cbv)
      | (refine Lex.mk (by decide +kernel) ?_; cbv)
    rotate_left
    all_goals try (first | exact ⟨hq0.1, Int.le_trans hq0.2 (by decide)⟩ | exact Int.le_trans hq0.2 (by decide) | exact ⟨hq1.1, Int.le_trans hq1.2 (by decide)⟩ | exact Int.le_trans hq1.2 (by decide) | exact ⟨hq2.1, Int.le_trans hq2.2 (by decide)⟩ | exact Int.le_trans hq2.2 (by decide) | exact ⟨hq3.1, Int.le_trans hq3.2 (by decide)⟩ | exact Int.le_trans hq3.2 (by decide) | exact ⟨rfl, rfl, by decide, by decide⟩)
    refine loop_rule (α := (Unit → Nat) ⊕ (Unit → Nat)) (c := ⟨tt, E82, 1⟩)
        (fun a' => match a' with | .inl _ => fr 60 [(0, .c (.p 0 (.l 0))), (2, .c (.p 1 (.l 0))), (3, .c (.p 3 (.l 0))), (4, .c (.f .f32 fun _ => drSp [] (a (), s ()))), (5, .c (.i .i64 (.x fun _ => drK [] (a (), s ()))))] | .inr i => fr 60 [(0, .c (.p 0 (.l 0))), (2, .c (.p 1 (.l 0))), (3, .c (.p 3 (.l 0))), (4, .c (.f .f32 fun _ => (drI [] (a (), s ()) (i ())).2)), (5, .c (.i .i64 (.x fun _ => drK [] (a (), s ()) - (i () : Int))))]) (fun a' => match a' with | .inl _ => [some ⟨true, 0, .lit [.sn, .i .i64 (.x fun _ => (drQ4 [] (a (), s ())).1), .i .u64 (.x fun _ => (drQ4 [] (a (), s ())).2)]⟩, some ⟨true, 0, .lit [.f .f32 fun _ => 0, .f .f32 fun _ => 0, .f .f32 fun _ => 0, .sn]⟩, none, some ⟨true, 0, .lit [.f .f32 fun _ => drSt [] (a (), s ()), .f .f32 fun _ => drSp [] (a (), s ()), .f .f32 fun _ => drFd [] (a (), s ()), .sn]⟩] | .inr i => [some ⟨true, 0, .lit [.sn, .i .i64 (.x fun _ => ((drI [] (a (), s ()) (i ())).1).1), .i .u64 (.x fun _ => ((drI [] (a (), s ()) (i ())).1).2)]⟩, some ⟨true, 0, .lit [.f .f32 fun _ => 0, .f .f32 fun _ => 0, .f .f32 fun _ => 0, .sn]⟩, none, some ⟨true, 0, .lit [.f .f32 fun _ => drSt [] (a (), s ()), .f .f32 fun _ => drSp [] (a (), s ()), .f .f32 fun _ => drFd [] (a (), s ()), .sl 4 (.l 0) (.x fun _ => i ())]⟩, some ⟨true, 3, .fl fun _ => drL [] (a (), s ()) (i ())⟩])
        (fun a' => match a' with | .inl _ => True | .inr i => 1 ≤ i () ∧ i () ≤ drN [] (a (), s ())) (fun a' => match a' with | .inl _ => drN [] (a (), s ()) + 1 | .inr i => drN [] (a (), s ()) - i ()) (fun _ => drN [] (a (), s ()) + 2) ?_ ?_
    · refine .mk (.inl fun _ => 0) trivial (by dsimp only; omega) ?_
      cbv
      repeat' (refine Ob.mk ?_ ?_; rotate_left)
      all_goals (try simp only [Unit.unit, Int.ofNat_lt, Int.ofNat_le, BE.val, IE.val, NE.val, ltB_iff, ltB_no, leB_iff, leB_no, Int.toNat_natCast, Nat.zero_add, Nat.add_zero, Nat.mul_one, forced, beq_iff_eq, beq_eq_false_iff_ne, bne_iff_ne, bne_eq_false_iff_eq] at *)
      all_goals first | with_reducible rfl | trivial | exact hwK | rfl
    · rintro (i | i) hi
      · cbv
        refine Br.mk (fun hk => ?_) (fun hk => ?_)
        · clear hk
          have f1 : qIn 2000 ((drI [] (a ⟨⟩, s ⟨⟩) (0)).1) := qIn_le (drI_in hq0 (0)) (by omega)
          have hkn : IntKind.wrap .i64 (drK [] (a ⟨⟩, s ⟨⟩) - 0 - 1) = drK [] (a ⟨⟩, s ⟨⟩) - ((0 + 1 : Nat) : Int) := by rw [wrap64 (by omega) (by omega)]; omega
          have hkn : IntKind.wrap .i64 (drK [] (a ⟨⟩, s ⟨⟩) - 1) = drK [] (a ⟨⟩, s ⟨⟩) - ((1 : Nat) : Int) := by rw [wrap64 (by omega) (by omega)]; omega
          have hln := drL_len [] (a ⟨⟩, s ⟨⟩) (0)
          cbv
          repeat' (refine Ob.mk ?_ ?_; rotate_left; cbv)
          rotate_left
          all_goals try (first | exact ⟨f1.1, Int.le_trans f1.2 (by decide)⟩ | exact Int.le_trans f1.2 (by decide))
          refine Br.mk (fun hy => ?_) (fun hy => ?_)
          · have hy : spY [] ((drI [] (a ⟨⟩, s ⟨⟩) (0)).1) = true := hy
            have e1 : spV [] ((drI [] (a ⟨⟩, s ⟨⟩) (0)).1) ((drI [] (a ⟨⟩, s ⟨⟩) (0)).2) = fop .add .f32 ((drI [] (a ⟨⟩, s ⟨⟩) (0)).2) (fop .quo .f32 (floatOfInt .f32 (IntKind.wrap .i64 (pkV [] 9 (pkQ [] 2 (drI [] (a ⟨⟩, s ⟨⟩) (0)).1) - 3))) 1115684864) := if_pos hy
            have e2 : spQb [] ((drI [] (a ⟨⟩, s ⟨⟩) (0)).1) = pkQ [] 9 (pkQ [] 2 (drI [] (a ⟨⟩, s ⟨⟩) (0)).1) := if_pos hy
            have e3 : spQ [] ((drI [] (a ⟨⟩, s ⟨⟩) (0)).1) = pkQ [] 80 (pkQ [] 30 (pkQ [] 9 (pkQ [] 2 (drI [] (a ⟨⟩, s ⟨⟩) (0)).1))) := by unfold spQ spQc; rw [e2]
            have e4 : spLen [] ((drI [] (a ⟨⟩, s ⟨⟩) (0)).1) = fop .quo .f32 (floatOfInt .f32 (IntKind.wrap .i64 (2 + pkV [] 30 (pkQ [] 9 (pkQ [] 2 (drI [] (a ⟨⟩, s ⟨⟩) (0)).1))))) 1073741824 := by unfold spLen; rw [e2]
            have e5 : spTen [] ((drI [] (a ⟨⟩, s ⟨⟩) (0)).1) = fop .quo .f32 (floatOfInt .f32 (IntKind.wrap .i64 (pkV [] 80 (pkQ [] 30 (pkQ [] 9 (pkQ [] 2 (drI [] (a ⟨⟩, s ⟨⟩) (0)).1))) - 8))) 1082130432 := by unfold spTen spQc; rw [e2]
            have e6 : drL [] (a ⟨⟩, s ⟨⟩) (0 + 1) = drL [] (a ⟨⟩, s ⟨⟩) (0) ++ [fop .quo .f32 (floatOfInt .f32 (IntKind.wrap .i64 (2 + pkV [] 30 (pkQ [] 9 (pkQ [] 2 (drI [] (a ⟨⟩, s ⟨⟩) (0)).1))))) 1073741824, fop .add .f32 ((drI [] (a ⟨⟩, s ⟨⟩) (0)).2) (fop .quo .f32 (floatOfInt .f32 (IntKind.wrap .i64 (pkV [] 9 (pkQ [] 2 (drI [] (a ⟨⟩, s ⟨⟩) (0)).1) - 3))) 1115684864), fop .quo .f32 (floatOfInt .f32 (IntKind.wrap .i64 (pkV [] 80 (pkQ [] 30 (pkQ [] 9 (pkQ [] 2 (drI [] (a ⟨⟩, s ⟨⟩) (0)).1))) - 8))) 1082130432] := by
              show drL [] (a ⟨⟩, s ⟨⟩) (0) ++ [spLen [] ((drI [] (a ⟨⟩, s ⟨⟩) (0)).1), spV [] ((drI [] (a ⟨⟩, s ⟨⟩) (0)).1) ((drI [] (a ⟨⟩, s ⟨⟩) (0)).2), spTen [] ((drI [] (a ⟨⟩, s ⟨⟩) (0)).1)] = _
              rw [e1, e4, e5]
            have f2 : qIn 2002 (pkQ [] 2 ((drI [] (a ⟨⟩, s ⟨⟩) (0)).1)) := qIn_pk f1
            have f3 : qIn 2004 (pkQ [] 9 (pkQ [] 2 (drI [] (a ⟨⟩, s ⟨⟩) (0)).1)) := qIn_pk f2
            have f4 : qIn 2006 (pkQ [] 30 (pkQ [] 9 (pkQ [] 2 (drI [] (a ⟨⟩, s ⟨⟩) (0)).1))) := qIn_le (qIn_pk f3) (by decide)
            have f5 : qIn 2008 (pkQ [] 80 (pkQ [] 30 (pkQ [] 9 (pkQ [] 2 (drI [] (a ⟨⟩, s ⟨⟩) (0)).1)))) := qIn_le (qIn_pk f4) (by decide)
            cbv
            repeat' first
              | (refine Ob.mk ?_ ?_; rotate_left; cbv)
              | (refine Lex.mk (by decide +kernel) ?_; cbv)
              | (refine Next.ren [1, 2, 3, 6] (.inr fun _ => 1) ?_ ?_ ?_)
            all_goals try (first | exact ⟨f1.1, Int.le_trans f1.2 (by decide)⟩ | exact Int.le_trans f1.2 (by decide) | exact ⟨f2.1, Int.le_trans f2.2 (by decide)⟩ | exact Int.le_trans f2.2 (by decide) | exact ⟨f3.1, Int.le_trans f3.2 (by decide)⟩ | exact Int.le_trans f3.2 (by decide) | exact ⟨f4.1, Int.le_trans f4.2 (by decide)⟩ | exact Int.le_trans f4.2 (by decide) | exact ⟨f5.1, Int.le_trans f5.2 (by decide)⟩ | exact Int.le_trans f5.2 (by decide) | exact (congrArg Prod.fst e3).symm | exact (congrArg Prod.snd e3).symm | exact e1.symm | exact e6.symm | exact hkn | exact hln)
            all_goals (try simp only [Unit.unit, Int.ofNat_lt, Int.ofNat_le, BE.val, IE.val, NE.val, ltB_iff, ltB_no, leB_iff, leB_no, Int.toNat_natCast, Nat.zero_add, Nat.add_zero, Nat.mul_one, forced, beq_iff_eq, beq_eq_false_iff_ne, bne_iff_ne, bne_eq_false_iff_eq] at *)
            all_goals first | with_reducible rfl | trivial | omega | exact ⟨by omega, by omega⟩ | exact hkn | exact hln | exact (congrArg Prod.fst e3).symm | exact (congrArg Prod.snd e3).symm | exact e1.symm | exact e6.symm | rfl
          · have hy : spY [] ((drI [] (a ⟨⟩, s ⟨⟩) (0)).1) = false := hy
            have e1 : spV [] ((drI [] (a ⟨⟩, s ⟨⟩) (0)).1) ((drI [] (a ⟨⟩, s ⟨⟩) (0)).2) = (drI [] (a ⟨⟩, s ⟨⟩) (0)).2 := if_neg (by rw [hy]; decide)
            have e2 : spQb [] ((drI [] (a ⟨⟩, s ⟨⟩) (0)).1) = pkQ [] 2 (drI [] (a ⟨⟩, s ⟨⟩) (0)).1 := if_neg (by rw [hy]; decide)
            have e3 : spQ [] ((drI [] (a ⟨⟩, s ⟨⟩) (0)).1) = pkQ [] 80 (pkQ [] 30 (pkQ [] 2 (drI [] (a ⟨⟩, s ⟨⟩) (0)).1)) := by unfold spQ spQc; rw [e2]
            have e4 : spLen [] ((drI [] (a ⟨⟩, s ⟨⟩) (0)).1) = fop .quo .f32 (floatOfInt .f32 (IntKind.wrap .i64 (2 + pkV [] 30 (pkQ [] 2 (drI [] (a ⟨⟩, s ⟨⟩) (0)).1)))) 1073741824 := by unfold spLen; rw [e2]
            have e5 : spTen [] ((drI [] (a ⟨⟩, s ⟨⟩) (0)).1) = fop .quo .f32 (floatOfInt .f32 (IntKind.wrap .i64 (pkV [] 80 (pkQ [] 30 (pkQ [] 2 (drI [] (a ⟨⟩, s ⟨⟩) (0)).1)) - 8))) 1082130432 := by unfold spTen spQc; rw [e2]
            have e6 : drL [] (a ⟨⟩, s ⟨⟩) (0 + 1) = drL [] (a ⟨⟩, s ⟨⟩) (0) ++ [fop .quo .f32 (floatOfInt .f32 (IntKind.wrap .i64 (2 + pkV [] 30 (pkQ [] 2 (drI [] (a ⟨⟩, s ⟨⟩) (0)).1)))) 1073741824, (drI [] (a ⟨⟩, s ⟨⟩) (0)).2, fop .quo .f32 (floatOfInt .f32 (IntKind.wrap .i64 (pkV [] 80 (pkQ [] 30 (pkQ [] 2 (drI [] (a ⟨⟩, s ⟨⟩) (0)).1)) - 8))) 1082130432] := by
              show drL [] (a ⟨⟩, s ⟨⟩) (0) ++ [spLen [] ((drI [] (a ⟨⟩, s ⟨⟩) (0)).1), spV [] ((drI [] (a ⟨⟩, s ⟨⟩) (0)).1) ((drI [] (a ⟨⟩, s ⟨⟩) (0)).2), spTen [] ((drI [] (a ⟨⟩, s ⟨⟩) (0)).1)] = _
              rw [e1, e4, e5]
            have f2 : qIn 2002 (pkQ [] 2 ((drI [] (a ⟨⟩, s ⟨⟩) (0)).1)) := qIn_pk f1
            have f4 : qIn 2006 (pkQ [] 30 (pkQ [] 2 (drI [] (a ⟨⟩, s ⟨⟩) (0)).1)) := qIn_le (qIn_pk f2) (by decide)
            have f5 : qIn 2008 (pkQ [] 80 (pkQ [] 30 (pkQ [] 2 (drI [] (a ⟨⟩, s ⟨⟩) (0)).1))) := qIn_le (qIn_pk f4) (by decide)
            cbv
            repeat' first
              | (refine Ob.mk ?_ ?_; rotate_left; cbv)
              | (refine Lex.mk (by decide +kernel) ?_; cbv)
              | (refine Next.ren [1, 2, 3, 6] (.inr fun _ => 1) ?_ ?_ ?_)
            all_goals try (first | exact ⟨f1.1, Int.le_trans f1.2 (by decide)⟩ | exact Int.le_trans f1.2 (by decide) | exact ⟨f2.1, Int.le_trans f2.2 (by decide)⟩ | exact Int.le_trans f2.2 (by decide) | exact ⟨f4.1, Int.le_trans f4.2 (by decide)⟩ | exact Int.le_trans f4.2 (by decide) | exact ⟨f5.1, Int.le_trans f5.2 (by decide)⟩ | exact Int.le_trans f5.2 (by decide) | exact (congrArg Prod.fst e3).symm | exact (congrArg Prod.snd e3).symm | exact e1.symm | exact e6.symm | exact hkn | exact hln)
            all_goals (try simp only [Unit.unit, Int.ofNat_lt, Int.ofNat_le, BE.val, IE.val, NE.val, ltB_iff, ltB_no, leB_iff, leB_no, Int.toNat_natCast, Nat.zero_add, Nat.add_zero, Nat.mul_one, forced, beq_iff_eq, beq_eq_false_iff_ne, bne_iff_ne, bne_eq_false_iff_eq] at *)
            all_goals first | with_reducible rfl | trivial | omega | exact ⟨by omega, by omega⟩ | exact hkn | exact hln | exact (congrArg Prod.fst e3).symm | exact (congrArg Prod.snd e3).symm | exact e1.symm | exact e6.symm | rfl
        · exfalso
          have h2 := ltB_no.1 hk
          exact h2 (Int.lt_of_lt_of_le (by decide) hK.1)
      · have hi1 : 1 ≤ i ⟨⟩ := hi.1
        have hi2 : i ⟨⟩ ≤ drN [] (a ⟨⟩, s ⟨⟩) := hi.2
        cbv
        refine Br.mk (fun hk => ?_) (fun hk => ?_)
        · have hin : i ⟨⟩ < drN [] (a ⟨⟩, s ⟨⟩) := in_lt hN.2.2 (ltB_iff.1 hk)
          clear hk
          have f1 : qIn 2000 ((drI [] (a ⟨⟩, s ⟨⟩) (i ⟨⟩)).1) := qIn_le (drI_in hq0 (i ⟨⟩)) (by omega)
          have hkn : IntKind.wrap .i64 (drK [] (a ⟨⟩, s ⟨⟩) - (i ⟨⟩ : Int) - 1) = drK [] (a ⟨⟩, s ⟨⟩) - ((i ⟨⟩ + 1 : Nat) : Int) := by rw [wrap64 (by omega) (by omega)]; omega
          have hln := drL_len [] (a ⟨⟩, s ⟨⟩) (i ⟨⟩)
          cbv
          repeat' (refine Ob.mk ?_ ?_; rotate_left; cbv)
          rotate_left
          all_goals try (first | exact ⟨f1.1, Int.le_trans f1.2 (by decide)⟩ | exact Int.le_trans f1.2 (by decide))
          refine Br.mk (fun hy => ?_) (fun hy => ?_)
          · have hy : spY [] ((drI [] (a ⟨⟩, s ⟨⟩) (i ⟨⟩)).1) = true := hy
            have e1 : spV [] ((drI [] (a ⟨⟩, s ⟨⟩) (i ⟨⟩)).1) ((drI [] (a ⟨⟩, s ⟨⟩) (i ⟨⟩)).2) = fop .add .f32 ((drI [] (a ⟨⟩, s ⟨⟩) (i ⟨⟩)).2) (fop .quo .f32 (floatOfInt .f32 (IntKind.wrap .i64 (pkV [] 9 (pkQ [] 2 (drI [] (a ⟨⟩, s ⟨⟩) (i ⟨⟩)).1) - 3))) 1115684864) := if_pos hy
            have e2 : spQb [] ((drI [] (a ⟨⟩, s ⟨⟩) (i ⟨⟩)).1) = pkQ [] 9 (pkQ [] 2 (drI [] (a ⟨⟩, s ⟨⟩) (i ⟨⟩)).1) := if_pos hy
            have e3 : spQ [] ((drI [] (a ⟨⟩, s ⟨⟩) (i ⟨⟩)).1) = pkQ [] 80 (pkQ [] 30 (pkQ [] 9 (pkQ [] 2 (drI [] (a ⟨⟩, s ⟨⟩) (i ⟨⟩)).1))) := by unfold spQ spQc; rw [e2]
            have e4 : spLen [] ((drI [] (a ⟨⟩, s ⟨⟩) (i ⟨⟩)).1) = fop .quo .f32 (floatOfInt .f32 (IntKind.wrap .i64 (2 + pkV [] 30 (pkQ [] 9 (pkQ [] 2 (drI [] (a ⟨⟩, s ⟨⟩) (i ⟨⟩)).1))))) 1073741824 := by unfold spLen; rw [e2]
            have e5 : spTen [] ((drI [] (a ⟨⟩, s ⟨⟩) (i ⟨⟩)).1) = fop .quo .f32 (floatOfInt .f32 (IntKind.wrap .i64 (pkV [] 80 (pkQ [] 30 (pkQ [] 9 (pkQ [] 2 (drI [] (a ⟨⟩, s ⟨⟩) (i ⟨⟩)).1))) - 8))) 1082130432 := by unfold spTen spQc; rw [e2]
            have e6 : drL [] (a ⟨⟩, s ⟨⟩) (i ⟨⟩ + 1) = drL [] (a ⟨⟩, s ⟨⟩) (i ⟨⟩) ++ [fop .quo .f32 (floatOfInt .f32 (IntKind.wrap .i64 (2 + pkV [] 30 (pkQ [] 9 (pkQ [] 2 (drI [] (a ⟨⟩, s ⟨⟩) (i ⟨⟩)).1))))) 1073741824, fop .add .f32 ((drI [] (a ⟨⟩, s ⟨⟩) (i ⟨⟩)).2) (fop .quo .f32 (floatOfInt .f32 (IntKind.wrap .i64 (pkV [] 9 (pkQ [] 2 (drI [] (a ⟨⟩, s ⟨⟩) (i ⟨⟩)).1) - 3))) 1115684864), fop .quo .f32 (floatOfInt .f32 (IntKind.wrap .i64 (pkV [] 80 (pkQ [] 30 (pkQ [] 9 (pkQ [] 2 (drI [] (a ⟨⟩, s ⟨⟩) (i ⟨⟩)).1))) - 8))) 1082130432] := by
              show drL [] (a ⟨⟩, s ⟨⟩) (i ⟨⟩) ++ [spLen [] ((drI [] (a ⟨⟩, s ⟨⟩) (i ⟨⟩)).1), spV [] ((drI [] (a ⟨⟩, s ⟨⟩) (i ⟨⟩)).1) ((drI [] (a ⟨⟩, s ⟨⟩) (i ⟨⟩)).2), spTen [] ((drI [] (a ⟨⟩, s ⟨⟩) (i ⟨⟩)).1)] = _
              rw [e1, e4, e5]
            have f2 : qIn 2002 (pkQ [] 2 ((drI [] (a ⟨⟩, s ⟨⟩) (i ⟨⟩)).1)) := qIn_pk f1
            have f3 : qIn 2004 (pkQ [] 9 (pkQ [] 2 (drI [] (a ⟨⟩, s ⟨⟩) (i ⟨⟩)).1)) := qIn_pk f2
            have f4 : qIn 2006 (pkQ [] 30 (pkQ [] 9 (pkQ [] 2 (drI [] (a ⟨⟩, s ⟨⟩) (i ⟨⟩)).1))) := qIn_le (qIn_pk f3) (by decide)
            have f5 : qIn 2008 (pkQ [] 80 (pkQ [] 30 (pkQ [] 9 (pkQ [] 2 (drI [] (a ⟨⟩, s ⟨⟩) (i ⟨⟩)).1)))) := qIn_le (qIn_pk f4) (by decide)
            cbv
            repeat' first
              | (refine Ob.mk ?_ ?_; rotate_left; cbv)
              | (refine Lex.mk (by decide +kernel) ?_; cbv)
              | (refine Next.ren [1, 2, 3, 7] (.inr fun _ => i () + 1) ?_ ?_ ?_)
            all_goals try (first | exact ⟨f1.1, Int.le_trans f1.2 (by decide)⟩ | exact Int.le_trans f1.2 (by decide) | exact ⟨f2.1, Int.le_trans f2.2 (by decide)⟩ | exact Int.le_trans f2.2 (by decide) | exact ⟨f3.1, Int.le_trans f3.2 (by decide)⟩ | exact Int.le_trans f3.2 (by decide) | exact ⟨f4.1, Int.le_trans f4.2 (by decide)⟩ | exact Int.le_trans f4.2 (by decide) | exact ⟨f5.1, Int.le_trans f5.2 (by decide)⟩ | exact Int.le_trans f5.2 (by decide) | exact (congrArg Prod.fst e3).symm | exact (congrArg Prod.snd e3).symm | exact e1.symm | exact e6.symm | exact hkn | exact hln)
            all_goals (try simp only [Unit.unit, Int.ofNat_lt, Int.ofNat_le, BE.val, IE.val, NE.val, ltB_iff, ltB_no, leB_iff, leB_no, Int.toNat_natCast, Nat.zero_add, Nat.add_zero, Nat.mul_one, forced, beq_iff_eq, beq_eq_false_iff_ne, bne_iff_ne, bne_eq_false_iff_eq] at *)
            all_goals first | with_reducible rfl | trivial | omega | exact ⟨by omega, by omega⟩ | exact hkn | exact hln | exact (congrArg Prod.fst e3).symm | exact (congrArg Prod.snd e3).symm | exact e1.symm | exact e6.symm | rfl
          · have hy : spY [] ((drI [] (a ⟨⟩, s ⟨⟩) (i ⟨⟩)).1) = false := hy
            have e1 : spV [] ((drI [] (a ⟨⟩, s ⟨⟩) (i ⟨⟩)).1) ((drI [] (a ⟨⟩, s ⟨⟩) (i ⟨⟩)).2) = (drI [] (a ⟨⟩, s ⟨⟩) (i ⟨⟩)).2 := if_neg (by rw [hy]; decide)
            have e2 : spQb [] ((drI [] (a ⟨⟩, s ⟨⟩) (i ⟨⟩)).1) = pkQ [] 2 (drI [] (a ⟨⟩, s ⟨⟩) (i ⟨⟩)).1 := if_neg (by rw [hy]; decide)
            have e3 : spQ [] ((drI [] (a ⟨⟩, s ⟨⟩) (i ⟨⟩)).1) = pkQ [] 80 (pkQ [] 30 (pkQ [] 2 (drI [] (a ⟨⟩, s ⟨⟩) (i ⟨⟩)).1)) := by unfold spQ spQc; rw [e2]
            have e4 : spLen [] ((drI [] (a ⟨⟩, s ⟨⟩) (i ⟨⟩)).1) = fop .quo .f32 (floatOfInt .f32 (IntKind.wrap .i64 (2 + pkV [] 30 (pkQ [] 2 (drI [] (a ⟨⟩, s ⟨⟩) (i ⟨⟩)).1)))) 1073741824 := by unfold spLen; rw [e2]
            have e5 : spTen [] ((drI [] (a ⟨⟩, s ⟨⟩) (i ⟨⟩)).1) = fop .quo .f32 (floatOfInt .f32 (IntKind.wrap .i64 (pkV [] 80 (pkQ [] 30 (pkQ [] 2 (drI [] (a ⟨⟩, s ⟨⟩) (i ⟨⟩)).1)) - 8))) 1082130432 := by unfold spTen spQc; rw [e2]
            have e6 : drL [] (a ⟨⟩, s ⟨⟩) (i ⟨⟩ + 1) = drL [] (a ⟨⟩, s ⟨⟩) (i ⟨⟩) ++ [fop .quo .f32 (floatOfInt .f32 (IntKind.wrap .i64 (2 + pkV [] 30 (pkQ [] 2 (drI [] (a ⟨⟩, s ⟨⟩) (i ⟨⟩)).1)))) 1073741824, (drI [] (a ⟨⟩, s ⟨⟩) (i ⟨⟩)).2, fop .quo .f32 (floatOfInt .f32 (IntKind.wrap .i64 (pkV [] 80 (pkQ [] 30 (pkQ [] 2 (drI [] (a ⟨⟩, s ⟨⟩) (i ⟨⟩)).1)) - 8))) 1082130432] := by
              show drL [] (a ⟨⟩, s ⟨⟩) (i ⟨⟩) ++ [spLen [] ((drI [] (a ⟨⟩, s ⟨⟩) (i ⟨⟩)).1), spV [] ((drI [] (a ⟨⟩, s ⟨⟩) (i ⟨⟩)).1) ((drI [] (a ⟨⟩, s ⟨⟩) (i ⟨⟩)).2), spTen [] ((drI [] (a ⟨⟩, s ⟨⟩) (i ⟨⟩)).1)] = _
              rw [e1, e4, e5]
            have f2 : qIn 2002 (pkQ [] 2 ((drI [] (a ⟨⟩, s ⟨⟩) (i ⟨⟩)).1)) := qIn_pk f1
            have f4 : qIn 2006 (pkQ [] 30 (pkQ [] 2 (drI [] (a ⟨⟩, s ⟨⟩) (i ⟨⟩)).1)) := qIn_le (qIn_pk f2) (by decide)
            have f5 : qIn 2008 (pkQ [] 80 (pkQ [] 30 (pkQ [] 2 (drI [] (a ⟨⟩, s ⟨⟩) (i ⟨⟩)).1))) := qIn_le (qIn_pk f4) (by decide)
            cbv
            repeat' first
              | (refine Ob.mk ?_ ?_; rotate_left; cbv)
              | (refine Lex.mk (by decide +kernel) ?_; cbv)
              | (refine Next.ren [1, 2, 3, 7] (.inr fun _ => i () + 1) ?_ ?_ ?_)
            all_goals try (first | exact ⟨f1.1, Int.le_trans f1.2 (by decide)⟩ | exact Int.le_trans f1.2 (by decide) | exact ⟨f2.1, Int.le_trans f2.2 (by decide)⟩ | exact Int.le_trans f2.2 (by decide) | exact ⟨f4.1, Int.le_trans f4.2 (by decide)⟩ | exact Int.le_trans f4.2 (by decide) | exact ⟨f5.1, Int.le_trans f5.2 (by decide)⟩ | exact Int.le_trans f5.2 (by decide) | exact (congrArg Prod.fst e3).symm | exact (congrArg Prod.snd e3).symm | exact e1.symm | exact e6.symm | exact hkn | exact hln)
            all_goals (try simp only [Unit.unit, Int.ofNat_lt, Int.ofNat_le, BE.val, IE.val, NE.val, ltB_iff, ltB_no, leB_iff, leB_no, Int.toNat_natCast, Nat.zero_add, Nat.add_zero, Nat.mul_one, forced, beq_iff_eq, beq_eq_false_iff_ne, bne_iff_ne, bne_eq_false_iff_eq] at *)
            all_goals first | with_reducible rfl | trivial | omega | exact ⟨by omega, by omega⟩ | exact hkn | exact hln | exact (congrArg Prod.fst e3).symm | exact (congrArg Prod.snd e3).symm | exact e1.symm | exact e6.symm | rfl
        · have hin : i ⟨⟩ = drN [] (a ⟨⟩, s ⟨⟩) := in_eq hN.2.2 (ltB_no.1 hk) hi2
          clear hk
          cbv
          repeat' (refine Ob.mk ?_ ?_; rotate_left; cbv)
          all_goals (try simp only [Unit.unit, Int.ofNat_lt, Int.ofNat_le, BE.val, IE.val, NE.val, ltB_iff, ltB_no, leB_iff, leB_no, Int.toNat_natCast, Nat.zero_add, Nat.add_zero, Nat.mul_one, forced, beq_iff_eq, beq_eq_false_iff_ne, bne_iff_ne, bne_eq_false_iff_eq] at *)
          all_goals first | with_reducible rfl | trivial | exact hin | exact hin.symm | (rw [hin]; done) | (rw [hin]; rfl) | rfl
  · cases hs
theorem fn25 : FnOk Try.prog 25 Try.f25 (bodyOf Try.f25) := ⟨Try.func25, rfl, by rfl⟩
def s25 : Spec := hspec fun args H => match args, H with
  | [.c (.sl 0 (.x o) (.x n))], [some ⟨false, 0, .it .u8 L⟩] => some (.a [.f .f32 fun _ => drSt (L ()) (0, 0), .f .f32 fun _ => drSp (L ()) (0, 0), .f .f32 fun _ => drFd (L ()) (0, 0), .sl 1 (.l 0) (.x fun _ => drN (L ()) (0, 0))], [none, some ⟨true, 3, .fl fun _ => drW (L ()) (0, 0)⟩], [fun _ => o () = 0 ∧ (L ()).length = n () ∧ n () ≤ 4096 ∧ bytesOk (L ())])
  | [.c .sn], [] => some (.a [.f .f32 fun _ => drSt [] (0, 0), .f .f32 fun _ => drSp [] (0, 0), .f .f32 fun _ => drFd [] (0, 0), .sl 0 (.l 0) (.x fun _ => drN [] (0, 0))], [some ⟨true, 3, .fl fun _ => drW [] (0, 0)⟩], [])
  | _, _ => none
def E25 : Env := fun g => envGetL [(83, ⟨false, s83, none⟩), (82, ⟨false, s82, none⟩)] g
theorem E25ok : EnvOk Try.prog E25 := envOk_cons ok83 (envOk_cons ok82 (envOk_nil _))
theorem ok25 : Ok Try.prog 25 (s25) := ok_of_wpaH (E := E25) mixed tts E25ok fn25 fun args H v H' o hs ho => by
  split at hs
  · rename_i o n L
    cases hs
    have hcb := ho.one
    refine ⟨_, HLe.refl _, ?_⟩
    cbv
    repeat' first
      | (refine alt_t (by assumption) ?_; cbv)
      | (refine alt_f (by assumption) ?_; cbv)
      | (refine alt_b (fun h => ?_) (fun h => ?_) <;> cbv)
      | (refine Br.mk (fun h => ?_) (fun h => ?_) <;> cbv)
      | (refine Ob.mk ?_ ?_; rotate_left; cbv)
      | (refine Lex.mk (by decide +kernel) ?_; cbv)
    all_goals (try simp only [Unit.unit, Int.ofNat_lt, Int.ofNat_le, BE.val, IE.val, NE.val, ltB_iff, ltB_no, leB_iff, leB_no, Int.toNat_natCast, Nat.zero_add, Nat.add_zero, Nat.mul_one, forced, beq_iff_eq, beq_eq_false_iff_ne, bne_iff_ne, bne_eq_false_iff_eq] at *)
    all_goals first | with_reducible rfl | exact hcb | exact ⟨by decide, by decide⟩ | decide | rfl
  · cases hs
    refine ⟨_, HLe.refl _, ?_⟩
    cbv
    repeat' first
      | (refine alt_t (by assumption) ?_; cbv)
      | (refine alt_f (by assumption) ?_; cbv)
      | (refine alt_b (fun h => ?_) (fun h => ?_) <;> cbv)
      | (refine Br.mk (fun h => ?_) (fun h => ?_) <;> cbv)
      | (refine Ob.mk ?_ ?_; rotate_left; cbv)
      | (refine Lex.mk (by decide +kernel) ?_; cbv)
    all_goals (try simp only [Unit.unit, Int.ofNat_lt, Int.ofNat_le, BE.val, IE.val, NE.val, ltB_iff, ltB_no, leB_iff, leB_no, Int.toNat_natCast, Nat.zero_add, Nat.add_zero, Nat.mul_one, forced, beq_iff_eq, beq_eq_false_iff_ne, bne_iff_ne, bne_eq_false_iff_eq] at *)
    all_goals first | with_reducible rfl | exact hcb | exact ⟨by decide, by decide⟩ | decide | rfl
  · cases hs
end Go.Proofs.Ythkjlbggipocdaa.Sh
