/- What the lists of sheets of this seat compute, each shown once. No condition. -/
import Derived.Test.YtanndlifpojenaaVj
set_option linter.unusedVariables false
set_option linter.unusedSimpArgs false
set_option linter.unusedSectionVars false
namespace Go.Proofs.Ytanndlifpojenaa.Sh
open Go Go.Proofs
section
def nrmL : V → V
  | .c (.b e) => .c (.b (.x fun _ => e.val))
  | .c (.i k e) => .c (.i k (.x fun _ => e.val))
  | .c (.p b o) => .c (.p b (.x fun _ => o.val))
  | v => v
theorem nrmL_ok {μ : Nat → Loc} {N : Nat} {x : V} {v : Value} (h : relV μ N x v) : relV μ N (nrmL x) v := by
  unfold nrmL
  split <;> exact h
theorem start_okL {μ : Nat → Loc} {W : Nat → Prop} {w : World} {args : List V} {H H1 : Heap} {vs : List Value} (hW : ∀ k, w.heap.size ≤ k → W k) (hH : HRel μ W H w) (hr : relL (relV μ H.length) args vs) (hl : HLe H H1) {n : Nat} :
    St μ H.length W w (args.map nrmL ++ List.replicate (n - args.length) .n) H1 { tmps := vs.toArray ++ Array.replicate (n - vs.toArray.size) undef, defers := [] } w := by
  have hlen : H.length = H1.length := relL.len hl
  refine ⟨μ, agree.refl _ _, Nat.le_of_eq hlen, ?_, rfl, hH.le hl, Fr.refl _ _, hW⟩
  unfold relA
  have e : (vs.toArray ++ Array.replicate (n - vs.toArray.size) undef).toList = vs ++ List.replicate (n - args.length) undef := by
    simp [hr.len]
  show relL _ _ (vs.toArray ++ Array.replicate (n - vs.toArray.size) undef).toList
  rw [e, ← hlen]
  have h1 := hr.map (T := relV μ H.length) nrmL id fun a b _ hr => nrmL_ok hr
  rw [List.map_id] at h1
  exact h1.append (relL.replicate (R := relV μ H.length) (a := V.n) (b := undef) rfl _)
/-- a spec that does not see whole numbers and places written out, but sees how long a row is -/
def lspec (s : Spec) : Spec := fun args H => s (args.map nrmL) H
theorem ok_of_wpaL {P : Program} {tt : TT} {E : Env} (hm : P.follows .mixedOrders = true) (htt : TtOk P tt) (hE : EnvOk P E) {g : Nat} {fn : Func} {c : Code} (hf : FnOk P g fn c) {s : Spec}
    (h : ∀ args H v H' o, s args H = some (v, H', o) → holds o →
      ∃ H1, HLe H H1 ∧ wpa ⟨tt, E, H.length⟩ c (finE tt fn.results.toList H.length v H') (args ++ List.replicate (fn.ntmps - args.length) .n) H1) : Ok P g (lspec s) := by
  intro args H v H' o hs ho μ W w vs hW hH hr
  refine .inl ⟨callFunc_run hf _ _, calls_of_wp hf.at_ hf.body ?_⟩
  obtain ⟨H1, hl, hwp⟩ := h _ H v H' o hs ho
  rw [List.length_map] at hwp
  exact wpa_ok (c := ⟨tt, E, H.length⟩) hm htt hE hwp (start_okL hW hH hr hl) (fin_post htt)
def win (l : List M) (p : Nat) : List M := [at2 l (p + 0), at2 l (p + 1), at2 l (p + 2), at2 l (p + 3), at2 l (p + 4), at2 l (p + 5), at2 l (p + 6), at2 l (p + 7), at2 l (p + 8), at2 l (p + 9), at2 l (p + 10), at2 l (p + 11), at2 l (p + 12), at2 l (p + 13), at2 l (p + 14), at2 l (p + 15)]
theorem win_at (l : List M) (p : Nat) : ∀ i, i < 16 → at2 (win l p) i = at2 l (p + i)
  | 0, _ => rfl
  | 1, _ => rfl
  | 2, _ => rfl
  | 3, _ => rfl
  | 4, _ => rfl
  | 5, _ => rfl
  | 6, _ => rfl
  | 7, _ => rfl
  | 8, _ => rfl
  | 9, _ => rfl
  | 10, _ => rfl
  | 11, _ => rfl
  | 12, _ => rfl
  | 13, _ => rfl
  | 14, _ => rfl
  | 15, _ => rfl
  | i + 16, h => absurd h (by omega)
theorem win_len (l : List M) (p : Nat) : (win l p).length = 16 := rfl
theorem okS_win (l : List M) (p : Nat) : okS (win l p) = allI (fun i => okM (at2 l (p + i))) 16 := rfl
theorem off_win (l : List M) (p : Nat) {c k : Nat} (hc : c ≤ 3) (hk : k ≤ 3) : offM (win l p) c k = minusM (at2 l (p + c * 4 + k)) (at2 l (p + k)) := by
  unfold offM
  rw [win_at l p _ (by omega), win_at l p _ (by omega), Nat.add_assoc]
def s98L : Spec := lspec fun args H => match args, H with
  | [.c (.p 0 (.x p)), .c (.i .i64 (.x c)), .c (.i .i64 (.x k))], [some ⟨false, 0, x⟩] => match x.toCx with
    | some l => some (Zm (offM (win (l ()) (p ())) (c ()).toNat (k ()).toNat), [none], [fun _ => p () + 16 ≤ (l ()).length ∧ (0 ≤ c () ∧ c () ≤ 3) ∧ (0 ≤ k () ∧ k () ≤ 3)])
    | none => none
  | _, _ => none
def E98L : Env := fun g => envGetL [(71, ⟨true, s71, none⟩)] g
theorem E98Lok : EnvOk Try.prog E98L := envOk_cons ok71 (envOk_nil _)
set_option maxRecDepth 100000 in
set_option maxHeartbeats 2000000 in
theorem ok98L : Ok Try.prog 98 (s98L) := ok_of_wpaL (E := E98L) mixed tts E98Lok fn98 fun args H v H' o hs ho => by
  split at hs
  · rename_i p c k x
    split at hs
    · rename_i l hl
      cases hs
      obtain ⟨hlen, hx0, hx1⟩ := ho.one
      try simp only [Unit.unit] at hlen hx0 hx1
      have hx0 : 0 ≤ c ⟨⟩ ∧ c ⟨⟩ ≤ 3 := hx0
      have hx1 : 0 ≤ k ⟨⟩ ∧ k ⟨⟩ ≤ 3 := hx1
      have hlen : p ⟨⟩ + 16 ≤ (l ⟨⟩).length := hlen
      have hc4 : 0 ≤ c ⟨⟩ ∧ c ⟨⟩ < ((4 : Nat) : Int) := by omega
      have hk4 : 0 ≤ k ⟨⟩ ∧ k ⟨⟩ < ((4 : Nat) : Int) := by omega
      have hF := off_win (l ⟨⟩) (p ⟨⟩) (c := (c ⟨⟩).toNat) (k := (k ⟨⟩).toNat) (by omega) (by omega)
      have hA : (minusM (at2 (l ⟨⟩) (p ⟨⟩ + (c ⟨⟩).toNat * 4 + (k ⟨⟩).toNat)) (at2 (l ⟨⟩) (p ⟨⟩ + (k ⟨⟩).toNat))).1 = (offM (win (l ⟨⟩) (p ⟨⟩)) (c ⟨⟩).toNat (k ⟨⟩).toNat).1 := by rw [hF]
      have hB : (minusM (at2 (l ⟨⟩) (p ⟨⟩ + (c ⟨⟩).toNat * 4 + (k ⟨⟩).toNat)) (at2 (l ⟨⟩) (p ⟨⟩ + (k ⟨⟩).toNat))).2 = (offM (win (l ⟨⟩) (p ⟨⟩)) (c ⟨⟩).toNat (k ⟨⟩).toNat).2 := by rw [hF]
      refine ⟨_, HLe.cons (BLe.cx hl) HLe.nil, ?_⟩
      cbv
      repeat' first
        | (refine Ob.mk ?_ ?_; (focus (first | exact rfl | exact hc4 | exact hk4 | (dsimp only [IE.val, NE.val, IE.nat]; simp only [Nat.mul_one, Nat.add_zero]; exact hA) | (dsimp only [IE.val, NE.val, IE.nat]; simp only [Nat.mul_one, Nat.add_zero]; exact hB) | (dsimp only [IE.val, NE.val, IE.nat, Unit.unit]; omega) | (dsimp only [IE.val, NE.val, IE.nat, Unit.unit, Nat.mul_one]; rw [Nat.zero_add]; omega))); cbv)
        | (refine Lex.mk (by decide +kernel) ?_; cbv)
    · cases hs
  · cases hs
def s55L : Spec := lspec fun args H => match args, H with
  | [.c (.p 0 (.x p)), .c (.i .i64 (.x c))], [some ⟨false, 0, x⟩] => match x.toCx with
    | some l => some (Zm (meanO (win (l ()) (p ())) (c ()).toNat), [none], [fun _ => p () + 16 ≤ (l ()).length ∧ (0 ≤ c () ∧ c () ≤ 3)])
    | none => none
  | _, _ => none
def E55L : Env := fun g => envGetL [(98, ⟨true, s98L, none⟩), (74, ⟨true, s74, none⟩)] g
theorem E55Lok : EnvOk Try.prog E55L := envOk_cons ok98L (envOk_cons ok74 (envOk_nil _))
set_option maxRecDepth 100000 in
set_option maxHeartbeats 2000000 in
theorem ok55L : Ok Try.prog 55 (s55L) := ok_of_wpaL (E := E55L) mixed tts E55Lok fn55 fun args H v H' o hs ho => by
  split at hs
  · rename_i p c x
    split at hs
    · rename_i l hl
      cases hs
      obtain ⟨hlen, hx0⟩ := ho.one
      try simp only [Unit.unit] at hlen hx0
      have hx0 : 0 ≤ c ⟨⟩ ∧ c ⟨⟩ ≤ 3 := hx0
      have hlen : p ⟨⟩ + 16 ≤ (l ⟨⟩).length := hlen
      refine ⟨_, HLe.cons (BLe.cx hl) HLe.nil, ?_⟩
      cbv
      repeat' first
        | (refine Ob.mk ?_ ?_; (focus (first | exact rfl | exact ⟨hlen, hx0, by decide, by decide⟩ | exact ⟨hlen, hx0, ⟨by decide, by decide⟩⟩ | (exact ⟨by decide, by decide⟩) | decide | trace_state)); cbv)
        | (refine Loop.mk 70 ?_; cbv)
        | (refine Gen.same ?_; cbv)
        | (refine Lex.mk (by decide +kernel) ?_; cbv)
    · cases hs
  · cases hs
def s58L : Spec := lspec fun args H => match args, H with
  | [.c (.p 0 (.x p))], [some ⟨false, 0, x⟩] => match x.toCx with
    | some l => some (vB (okS (win (l ()) (p ()))), [none], [fun _ => p () + 16 ≤ (l ()).length])
    | none => none
  | _, _ => none
def E58L : Env := fun g => envGetL [(62, ⟨true, s62, none⟩)] g
theorem E58Lok : EnvOk Try.prog E58L := envOk_cons ok62 (envOk_nil _)
set_option maxRecDepth 100000 in
set_option maxHeartbeats 8000000 in
theorem ok58L : Ok Try.prog 58 (s58L) := ok_of_wpaL (E := E58L) mixed tts E58Lok fn58 fun args H v H' o hs ho => by
  split at hs
  · rename_i p x
    split at hs
    · rename_i l hl
      cases hs
      obtain hlen := ho.one
      try simp only [Unit.unit] at hlen 
      have hlen : p ⟨⟩ + 16 ≤ (l ⟨⟩).length := hlen
      have hbig := okS_win (l ⟨⟩) (p ⟨⟩)
      refine ⟨_, HLe.cons (BLe.cx hl) HLe.nil, ?_⟩
      cbv
      repeat' first
        | (refine Br.mk (fun h => ?_) (fun h => ?_) <;> cbv)
        | (refine Ob.mk ?_ ?_; rotate_left; cbv)
        | (refine Lex.mk (by decide +kernel) ?_; cbv)
        | (refine Loop.mk 70 ?_; cbv)
        | (refine Gen.same ?_; cbv)
      all_goals (try simp only [Unit.unit, Int.ofNat_lt, Int.ofNat_le, BE.val, IE.val, NE.val, ltB_iff, ltB_no, leB_iff, leB_no, Int.toNat_natCast, Nat.zero_add, Nat.add_zero, Nat.mul_one, forced, beq_iff_eq, beq_eq_false_iff_ne, bne_iff_ne, bne_eq_false_iff_eq] at *)
      all_goals first | with_reducible rfl | omega | (simp_all [okS_win, allI, Nat.add_assoc]; done) | (simp only [Nat.add_assoc] at *; simp_all [okS_win, allI]; done) | trace_state
    · cases hs
  · cases hs
end
section
def okL3 (l : List M) : Prop := l.length = 48 ∧ okS (win l 0) = true ∧ okS (win l 16) = true ∧ okS (win l 32) = true
def driK (l : List M) (c : Nat) : M := overM (minusM (meanO (win l 32) c) (meanO (win l 0) c)) (floatOfInt .f32 2)
def stdK (l : List M) : Nat → Nat × Nat
  | 0 => (1, sizeM (driK l 1))
  | k + 1 => if fcmp .lss .f32 (sizeM (driK l (k + 2))) (stdK l k).2 = true then (k + 2, sizeM (driK l (k + 2))) else stdK l k
theorem fn85 : FnOk Try.prog 85 Try.f85 (bodyOf Try.f85) := ⟨Try.func85, rfl, by rfl⟩
def s85 : Spec := lspec fun args H => match args, H with
  | [.c (.sl 0 (.l 0) (.l 3)), .c (.i .i64 (.x c))], [some ⟨false, 0, x⟩] => match x.toCx with
    | some l => some (vI 0, [none], [fun _ => okL3 (l ()) ∧ (0 ≤ c () ∧ c () ≤ 3)])
    | none => none
  | _, _ => none
def E85 : Env := fun g => envGetL [(92, ⟨true, s92, none⟩), (93, ⟨true, s93, none⟩)] g
theorem E85ok : EnvOk Try.prog E85 := envOk_cons ok92 (envOk_cons ok93 (envOk_nil _))
set_option maxRecDepth 100000 in
set_option maxHeartbeats 2000000 in
theorem ok85 : Ok Try.prog 85 (s85) := ok_of_wpaL (E := E85) mixed tts E85ok fn85 fun args H v H' o hs ho => by
  split at hs
  · rename_i c x
    split at hs
    · rename_i l hl
      cases hs
      obtain ⟨hl3, hx0⟩ := ho.one
      have hl3 : okL3 (l ⟨⟩) := hl3
      obtain ⟨hlen, hk0, hk1, hk2⟩ := id hl3
      have hx0 : 0 ≤ c ⟨⟩ ∧ c ⟨⟩ ≤ 3 := hx0
      refine ⟨_, HLe.cons (BLe.cx hl) HLe.nil, ?_⟩
      cbv
      repeat' first
        | (refine Ob.mk ?_ ?_; (focus (first | exact rfl | (dsimp only [IE.val, NE.val, IE.nat, Unit.unit]; rw [hlen]; decide) | decide | exact ⟨rfl, rfl, rfl, hx0.1, hx0.2⟩ | exact ⟨by decide, by decide⟩ | trace_state)); cbv)
        | (refine Loop.mk 70 ?_; cbv)
        | (refine Gen.same ?_; cbv)
        | (refine Lex.mk (by decide +kernel) ?_; cbv)
        | (refine Br.f (by first | exact ntf hk0 | exact ntf hk1 | exact ntf hk2) ?_; cbv)
    · cases hs
  · cases hs
end
section
theorem fn86 : FnOk Try.prog 86 Try.f86 (bodyOf Try.f86) := ⟨Try.func86, rfl, by rfl⟩
def s86 : Spec := lspec fun args H => match args, H with
  | [.c (.sl 0 (.l 0) (.l 3)), .c (.i .i64 (.x c))], [some ⟨false, 0, x⟩] => match x.toCx with
    | some l => some (Zm (driK (l ()) (c ()).toNat), [none], [fun _ => okL3 (l ()) ∧ (0 ≤ c () ∧ c () ≤ 3)])
    | none => none
  | _, _ => none
def E86 : Env := fun g => envGetL [(43, ⟨true, s43, none⟩), (65, ⟨true, s65, none⟩), (69, ⟨true, s69, none⟩)] g
theorem E86ok : EnvOk Try.prog E86 := envOk_cons ok43 (envOk_cons ok65 (envOk_cons ok69 (envOk_nil _)))
set_option maxRecDepth 100000 in
set_option maxHeartbeats 2000000 in
theorem ok86 : Ok Try.prog 86 (s86) := ok_of_wpaL (E := E86) mixed tts E86ok fn86 fun args H v H' o hs ho => by
  split at hs
  · rename_i c x
    split at hs
    · rename_i l hl
      cases hs
      obtain ⟨hl3, hx0⟩ := ho.one
      have hl3 : okL3 (l ⟨⟩) := hl3
      obtain ⟨hlen, hk0, hk1, hk2⟩ := id hl3
      have hx0 : 0 ≤ c ⟨⟩ ∧ c ⟨⟩ ≤ 3 := hx0
      refine ⟨_, HLe.cons (BLe.cx hl) HLe.nil, ?_⟩
      cbv
      repeat' first
        | (refine Ob.mk ?_ ?_; (focus (first | exact rfl | (dsimp only [IE.val, NE.val, IE.nat, Unit.unit]; rw [hlen]; decide) | decide | exact ⟨rfl, hx0⟩ | exact ⟨rfl, hx0.1, hx0.2⟩ | exact ⟨by decide, by decide⟩ | trace_state)); cbv)
        | (refine Loop.mk 70 ?_; cbv)
        | (refine Gen.same ?_; cbv)
        | (refine Lex.mk (by decide +kernel) ?_; cbv)
        | (refine Br.f (by fail) ?_; cbv)
    · cases hs
  · cases hs
end
section
theorem fn30 : FnOk Try.prog 30 Try.f30 (bodyOf Try.f30) := ⟨Try.func30, rfl, by rfl⟩
def s30 : Spec := lspec fun args H => match args, H with
  | [.c (.sl 0 (.l 0) (.l 3)), .c (.i .i64 (.x c))], [some ⟨false, 0, x⟩] => match x.toCx with
    | some l => some (.t [Zm (driK (l ()) (c ()).toNat), vI 0], [none], [fun _ => okL3 (l ()) ∧ (0 ≤ c () ∧ c () ≤ 3)])
    | none => none
  | _, _ => none
def E30 : Env := fun g => envGetL [(85, ⟨true, s85, none⟩), (86, ⟨true, s86, none⟩)] g
theorem E30ok : EnvOk Try.prog E30 := envOk_cons ok85 (envOk_cons ok86 (envOk_nil _))
set_option maxRecDepth 100000 in
set_option maxHeartbeats 2000000 in
theorem ok30 : Ok Try.prog 30 (s30) := ok_of_wpaL (E := E30) mixed tts E30ok fn30 fun args H v H' o hs ho => by
  split at hs
  · rename_i c x
    split at hs
    · rename_i l hl
      cases hs
      obtain ⟨hl3, hx0⟩ := ho.one
      have hl3 : okL3 (l ⟨⟩) := hl3
      obtain ⟨hlen, hk0, hk1, hk2⟩ := id hl3
      have hx0 : 0 ≤ c ⟨⟩ ∧ c ⟨⟩ ≤ 3 := hx0
      refine ⟨_, HLe.cons (BLe.cx hl) HLe.nil, ?_⟩
      cbv
      repeat' first
        | (refine Ob.mk ?_ ?_; (focus (first | exact rfl | exact ⟨hl3, hx0⟩ | trace_state)); cbv)
        | (refine Loop.mk 70 ?_; cbv)
        | (refine Gen.same ?_; cbv)
        | (refine Lex.mk (by decide +kernel) ?_; cbv)
        | (refine Br.f (rfl) ?_; cbv)
    · cases hs
  · cases hs
theorem std_t {l : List M} {k : Nat} (h : fcmp .lss .f32 (sizeM (driK l (k + 2))) (stdK l k).2 = true) : stdK l (k + 1) = (k + 2, sizeM (driK l (k + 2))) := if_pos h
theorem std_f {l : List M} {k : Nat} (h : fcmp .lss .f32 (sizeM (driK l (k + 2))) (stdK l k).2 = false) : stdK l (k + 1) = stdK l k := if_neg (by rw [h]; decide)
theorem std_bd (l : List M) : ∀ k, 1 ≤ (stdK l k).1 ∧ (stdK l k).1 ≤ k + 1
  | 0 => ⟨Nat.le_refl _, Nat.le_refl _⟩
  | k + 1 => by
    have := std_bd l k
    unfold stdK
    split
    · exact ⟨by omega, by omega⟩
    · omega
theorem std_0 (l : List M) : stdK l 0 = (1, sizeM (driK l 1)) := rfl
theorem bool_ft' (b : Bool) : b = false ∨ b = true := by cases b <;> simp
end
section
attribute [local irreducible] stdK sizeM driK
theorem fn32 : FnOk Try.prog 32 Try.f32 (bodyOf Try.f32) := ⟨Try.func32, rfl, by rfl⟩
def s32 : Spec := lspec fun args H => match args, H with
  | [.c (.sl 0 (.l 0) (.l 3))], [some ⟨false, 0, x⟩] => match x.toCx with
    | some l => some (.t [vI ((stdK (l ()) 2).1 : Nat), F (stdK (l ()) 2).2, vI 0], [none], [fun _ => okL3 (l ())])
    | none => none
  | _, _ => none
def E32 : Env := fun g => envGetL [(85, ⟨true, s85, none⟩), (86, ⟨true, s86, none⟩), (89, ⟨true, s89, none⟩)] g
theorem E32ok : EnvOk Try.prog E32 := envOk_cons ok85 (envOk_cons ok86 (envOk_cons ok89 (envOk_nil _)))
set_option maxRecDepth 100000 in
set_option maxHeartbeats 4000000 in
theorem ok32 : Ok Try.prog 32 (s32) := ok_of_wpaL (E := E32) mixed tts E32ok fn32 fun args H v H' o hs ho => by
  split at hs
  · rename_i x
    split at hs
    · rename_i l hl
      cases hs
      have hl3 := ho.one
      have hl3 : okL3 (l ⟨⟩) := hl3
      obtain ⟨hlen, hk0, hk1, hk2⟩ := id hl3
      refine ⟨_, HLe.cons (BLe.cx hl) HLe.nil, ?_⟩
      cbv
      repeat' (refine Ob.mk ?_ ?_; (focus (first | with_reducible rfl | exact hl3 | exact ⟨hl3, by decide, by decide⟩ | exact rfl)); cbv)
      refine Br.f rfl ?_
      cbv
      repeat' (refine Ob.mk ?_ ?_; (focus (first | with_reducible rfl | exact hl3 | exact ⟨hl3, by decide, by decide⟩ | exact rfl)); cbv)
      refine Loop.mk 70 ?_
      cbv
      have hE := std_0 (l ⟨⟩)
      have e1 : (1 : Int) = ((stdK (l ⟨⟩) 0).1 : Nat) := by rw [hE]; rfl
      have e2 : sizeM (driK (l ⟨⟩) 1) = (stdK (l ⟨⟩) 0).2 := by rw [hE]
      refine Gen.mk (fr 33 [(0, .c (.sl 0 (.l 0) (.l 3))), (6, vI ((stdK (l ()) 0).1 : Nat)), (7, F (stdK (l ()) 0).2), (8, .c (.i .i64 (.l 2)))]) [some ⟨false, 0, .cx l⟩] ?_
      cbv
      repeat' (refine Ob.mk ?_ ?_; (focus (first | with_reducible rfl | exact e1 | exact e2 | exact hl3 | exact ⟨hl3, by decide, by decide⟩ | exact rfl)); cbv)
      rcases bool_ft' (fcmp .lss .f32 (sizeM (driK (l ⟨⟩) 2)) (stdK (l ⟨⟩) 0).2) with h0 | h0
      · have hE := std_f h0
        have e1 : (((stdK (l ⟨⟩) 0).1 : Nat) : Int) = ((stdK (l ⟨⟩) 1).1 : Nat) := by rw [hE]
        have e2 : (stdK (l ⟨⟩) 0).2 = (stdK (l ⟨⟩) 1).2 := by rw [hE]
        refine Br.f h0 ?_
        cbv
        refine Gen.mk (fr 33 [(0, .c (.sl 0 (.l 0) (.l 3))), (6, vI ((stdK (l ()) 1).1 : Nat)), (7, F (stdK (l ()) 1).2), (8, .c (.i .i64 (.l 3)))]) [some ⟨false, 0, .cx l⟩] ?_
        cbv
        repeat' (refine Ob.mk ?_ ?_; (focus (first | with_reducible rfl | exact e1 | exact e2 | exact hl3 | exact ⟨hl3, by decide, by decide⟩ | exact rfl)); cbv)
        rcases bool_ft' (fcmp .lss .f32 (sizeM (driK (l ⟨⟩) 3)) (stdK (l ⟨⟩) 1).2) with h1 | h1
        · have hE := std_f h1
          have e1 : (((stdK (l ⟨⟩) 1).1 : Nat) : Int) = ((stdK (l ⟨⟩) 2).1 : Nat) := by rw [hE]
          have e2 : (stdK (l ⟨⟩) 1).2 = (stdK (l ⟨⟩) 2).2 := by rw [hE]
          refine Br.f h1 ?_
          cbv
          refine Gen.mk (fr 33 [(0, .c (.sl 0 (.l 0) (.l 3))), (6, vI ((stdK (l ()) 2).1 : Nat)), (7, F (stdK (l ()) 2).2), (8, .c (.i .i64 (.l 4)))]) [some ⟨false, 0, .cx l⟩] ?_
          cbv
          repeat' (refine Ob.mk ?_ ?_; (focus (first | with_reducible rfl | exact e1 | exact e2 | exact hl3 | exact ⟨hl3, by decide, by decide⟩ | exact rfl)); cbv)
        · have hE := std_t h1
          have e1 : (3 : Int) = ((stdK (l ⟨⟩) 2).1 : Nat) := by rw [hE]; rfl
          have e2 : sizeM (driK (l ⟨⟩) 3) = (stdK (l ⟨⟩) 2).2 := by rw [hE]
          refine Br.t h1 ?_
          cbv
          refine Gen.mk (fr 33 [(0, .c (.sl 0 (.l 0) (.l 3))), (6, vI ((stdK (l ()) 2).1 : Nat)), (7, F (stdK (l ()) 2).2), (8, .c (.i .i64 (.l 4)))]) [some ⟨false, 0, .cx l⟩] ?_
          cbv
          repeat' (refine Ob.mk ?_ ?_; (focus (first | with_reducible rfl | exact e1 | exact e2 | exact hl3 | exact ⟨hl3, by decide, by decide⟩ | exact rfl)); cbv)
      · have hE := std_t h0
        have e1 : (2 : Int) = ((stdK (l ⟨⟩) 1).1 : Nat) := by rw [hE]; rfl
        have e2 : sizeM (driK (l ⟨⟩) 2) = (stdK (l ⟨⟩) 1).2 := by rw [hE]
        refine Br.t h0 ?_
        cbv
        refine Gen.mk (fr 33 [(0, .c (.sl 0 (.l 0) (.l 3))), (6, vI ((stdK (l ()) 1).1 : Nat)), (7, F (stdK (l ()) 1).2), (8, .c (.i .i64 (.l 3)))]) [some ⟨false, 0, .cx l⟩] ?_
        cbv
        repeat' (refine Ob.mk ?_ ?_; (focus (first | with_reducible rfl | exact e1 | exact e2 | exact hl3 | exact ⟨hl3, by decide, by decide⟩ | exact rfl)); cbv)
        rcases bool_ft' (fcmp .lss .f32 (sizeM (driK (l ⟨⟩) 3)) (stdK (l ⟨⟩) 1).2) with h1 | h1
        · have hE := std_f h1
          have e1 : (((stdK (l ⟨⟩) 1).1 : Nat) : Int) = ((stdK (l ⟨⟩) 2).1 : Nat) := by rw [hE]
          have e2 : (stdK (l ⟨⟩) 1).2 = (stdK (l ⟨⟩) 2).2 := by rw [hE]
          refine Br.f h1 ?_
          cbv
          refine Gen.mk (fr 33 [(0, .c (.sl 0 (.l 0) (.l 3))), (6, vI ((stdK (l ()) 2).1 : Nat)), (7, F (stdK (l ()) 2).2), (8, .c (.i .i64 (.l 4)))]) [some ⟨false, 0, .cx l⟩] ?_
          cbv
          repeat' (refine Ob.mk ?_ ?_; (focus (first | with_reducible rfl | exact e1 | exact e2 | exact hl3 | exact ⟨hl3, by decide, by decide⟩ | exact rfl)); cbv)
        · have hE := std_t h1
          have e1 : (3 : Int) = ((stdK (l ⟨⟩) 2).1 : Nat) := by rw [hE]; rfl
          have e2 : sizeM (driK (l ⟨⟩) 3) = (stdK (l ⟨⟩) 2).2 := by rw [hE]
          refine Br.t h1 ?_
          cbv
          refine Gen.mk (fr 33 [(0, .c (.sl 0 (.l 0) (.l 3))), (6, vI ((stdK (l ()) 2).1 : Nat)), (7, F (stdK (l ()) 2).2), (8, .c (.i .i64 (.l 4)))]) [some ⟨false, 0, .cx l⟩] ?_
          cbv
          repeat' (refine Ob.mk ?_ ?_; (focus (first | with_reducible rfl | exact e1 | exact e2 | exact hl3 | exact ⟨hl3, by decide, by decide⟩ | exact rfl)); cbv)
    · cases hs
  · cases hs
end
section
theorem fn87 : FnOk Try.prog 87 Try.f87 (bodyOf Try.f87) := ⟨Try.func87, rfl, by rfl⟩
def s87 : Spec := lspec fun args H => match args, H with
  | [.c (.sl 0 (.l 0) (.l 3)), .c (.i .i64 (.x c))], [some ⟨false, 0, x⟩] => match x.toCx with
    | some l => some (vI 0, [none], [fun _ => okL3 (l ()) ∧ (0 ≤ c () ∧ c () ≤ 3)])
    | none => none
  | _, _ => none
def E87 : Env := fun g => envGetL [(58, ⟨true, s58L, none⟩), (97, ⟨true, s97, none⟩), (52, ⟨true, s52, none⟩)] g
theorem E87ok : EnvOk Try.prog E87 := envOk_cons ok58L (envOk_cons ok97 (envOk_cons ok52 (envOk_nil _)))
set_option maxRecDepth 100000 in
set_option maxHeartbeats 2000000 in
theorem ok87 : Ok Try.prog 87 (s87) := ok_of_wpaL (E := E87) mixed tts E87ok fn87 fun args H v H' o hs ho => by
  split at hs
  · rename_i c x
    split at hs
    · rename_i l hl
      cases hs
      obtain ⟨hl3, hx0⟩ := ho.one
      have hl3 : okL3 (l ⟨⟩) := hl3
      obtain ⟨hlen, hk0, hk1, hk2⟩ := id hl3
      have hx0 : 0 ≤ c ⟨⟩ ∧ c ⟨⟩ ≤ 3 := hx0
      have hc3 : inI (c ⟨⟩) 0 3 = true := inI_iff.2 hx0
      have hln : inI ((3 : Nat) : Int) 2 20 = true := by decide
      refine ⟨_, HLe.cons (BLe.cx hl) HLe.nil, ?_⟩
      cbv
      repeat' first
        | (refine Ob.mk ?_ ?_; (focus (first | exact rfl | (dsimp only [IE.val, NE.val, IE.nat, Unit.unit]; rw [hlen]; decide) | decide | trace_state)); cbv)
        | (refine Loop.mk 70 ?_; cbv)
        | (refine Gen.same ?_; cbv)
        | (refine Lex.mk (by decide +kernel) ?_; cbv)
        | (refine Br.f (by first | exact ntf hk0 | exact ntf hk1 | exact ntf hk2 | exact ntf hc3 | exact ntf hln) ?_; cbv)
    · cases hs
  · cases hs
theorem fn88 : FnOk Try.prog 88 Try.f88 (bodyOf Try.f88) := ⟨Try.func88, rfl, by rfl⟩
def s88 : Spec := lspec fun args H => match args, H with
  | [.c (.sl 0 (.l 0) (.l 3)), .c (.i .i64 (.x c))], [some ⟨false, 0, x⟩] => match x.toCx with
    | some l => some (Zm (driK (l ()) (c ()).toNat), [none], [fun _ => okL3 (l ()) ∧ (0 ≤ c () ∧ c () ≤ 3)])
    | none => none
  | _, _ => none
def E88 : Env := fun g => envGetL [(55, ⟨true, s55L, none⟩), (71, ⟨true, s71, none⟩), (78, ⟨true, s78, none⟩)] g
theorem E88ok : EnvOk Try.prog E88 := envOk_cons ok55L (envOk_cons ok71 (envOk_cons ok78 (envOk_nil _)))
set_option maxRecDepth 100000 in
set_option maxHeartbeats 2000000 in
theorem ok88 : Ok Try.prog 88 (s88) := ok_of_wpaL (E := E88) mixed tts E88ok fn88 fun args H v H' o hs ho => by
  split at hs
  · rename_i c x
    split at hs
    · rename_i l hl
      cases hs
      obtain ⟨hl3, hx0⟩ := ho.one
      have hl3 : okL3 (l ⟨⟩) := hl3
      obtain ⟨hlen, hk0, hk1, hk2⟩ := id hl3
      have hx0 : 0 ≤ c ⟨⟩ ∧ c ⟨⟩ ≤ 3 := hx0
      refine ⟨_, HLe.cons (BLe.cx hl) HLe.nil, ?_⟩
      cbv
      repeat' first
        | (refine Ob.mk ?_ ?_; (focus (first | exact rfl | exact ⟨by (dsimp only [IE.val, NE.val, IE.nat, Unit.unit]; rw [hlen]; decide), hx0⟩ | (dsimp only [IE.val, NE.val, IE.nat, Unit.unit]; rw [hlen]; decide) | decide | exact ⟨by decide, by decide⟩ | trace_state)); cbv)
        | (refine Loop.mk 70 ?_; cbv)
        | (refine Gen.same ?_; cbv)
        | (refine Lex.mk (by decide +kernel) ?_; cbv)
        | (refine Br.f (by fail) ?_; cbv)
    · cases hs
  · cases hs
theorem fn31 : FnOk Try.prog 31 Try.f31 (bodyOf Try.f31) := ⟨Try.func31, rfl, by rfl⟩
def s31 : Spec := lspec fun args H => match args, H with
  | [.c (.sl 0 (.l 0) (.l 3)), .c (.i .i64 (.x c))], [some ⟨false, 0, x⟩] => match x.toCx with
    | some l => some (.t [Zm (driK (l ()) (c ()).toNat), vI 0], [none], [fun _ => okL3 (l ()) ∧ (0 ≤ c () ∧ c () ≤ 3)])
    | none => none
  | _, _ => none
def E31 : Env := fun g => envGetL [(87, ⟨true, s87, none⟩), (88, ⟨true, s88, none⟩)] g
theorem E31ok : EnvOk Try.prog E31 := envOk_cons ok87 (envOk_cons ok88 (envOk_nil _))
set_option maxRecDepth 100000 in
set_option maxHeartbeats 2000000 in
theorem ok31 : Ok Try.prog 31 (s31) := ok_of_wpaL (E := E31) mixed tts E31ok fn31 fun args H v H' o hs ho => by
  split at hs
  · rename_i c x
    split at hs
    · rename_i l hl
      cases hs
      obtain ⟨hl3, hx0⟩ := ho.one
      have hl3 : okL3 (l ⟨⟩) := hl3
      obtain ⟨hlen, hk0, hk1, hk2⟩ := id hl3
      have hx0 : 0 ≤ c ⟨⟩ ∧ c ⟨⟩ ≤ 3 := hx0
      refine ⟨_, HLe.cons (BLe.cx hl) HLe.nil, ?_⟩
      cbv
      repeat' first
        | (refine Ob.mk ?_ ?_; (focus (first | exact rfl | exact ⟨hl3, hx0⟩ | trace_state)); cbv)
        | (refine Loop.mk 70 ?_; cbv)
        | (refine Gen.same ?_; cbv)
        | (refine Lex.mk (by decide +kernel) ?_; cbv)
        | (refine Br.f (rfl) ?_; cbv)
    · cases hs
  · cases hs
end
section
attribute [local irreducible] stdK sizeM driK
theorem fn33 : FnOk Try.prog 33 Try.f33 (bodyOf Try.f33) := ⟨Try.func33, rfl, by rfl⟩
def s33 : Spec := lspec fun args H => match args, H with
  | [.c (.sl 0 (.l 0) (.l 3))], [some ⟨false, 0, x⟩] => match x.toCx with
    | some l => some (.t [vI ((stdK (l ()) 2).1 : Nat), F (stdK (l ()) 2).2, vI 0], [none], [fun _ => okL3 (l ())])
    | none => none
  | _, _ => none
def E33 : Env := fun g => envGetL [(87, ⟨true, s87, none⟩), (88, ⟨true, s88, none⟩), (48, ⟨true, s48, none⟩)] g
theorem E33ok : EnvOk Try.prog E33 := envOk_cons ok87 (envOk_cons ok88 (envOk_cons ok48 (envOk_nil _)))
set_option maxRecDepth 100000 in
set_option maxHeartbeats 4000000 in
theorem ok33 : Ok Try.prog 33 (s33) := ok_of_wpaL (E := E33) mixed tts E33ok fn33 fun args H v H' o hs ho => by
  split at hs
  · rename_i x
    split at hs
    · rename_i l hl
      cases hs
      have hl3 := ho.one
      have hl3 : okL3 (l ⟨⟩) := hl3
      obtain ⟨hlen, hk0, hk1, hk2⟩ := id hl3
      refine ⟨_, HLe.cons (BLe.cx hl) HLe.nil, ?_⟩
      cbv
      repeat' (refine Ob.mk ?_ ?_; (focus (first | with_reducible rfl | exact hl3 | exact ⟨hl3, by decide, by decide⟩ | exact rfl)); cbv)
      refine Br.f rfl ?_
      cbv
      repeat' (refine Ob.mk ?_ ?_; (focus (first | with_reducible rfl | exact hl3 | exact ⟨hl3, by decide, by decide⟩ | exact rfl)); cbv)
      refine Loop.mk 70 ?_
      cbv
      have hE := std_0 (l ⟨⟩)
      have e1 : (1 : Int) = ((stdK (l ⟨⟩) 0).1 : Nat) := by rw [hE]; rfl
      have e2 : sizeM (driK (l ⟨⟩) 1) = (stdK (l ⟨⟩) 0).2 := by rw [hE]
      refine Gen.mk (fr 33 [(0, .c (.sl 0 (.l 0) (.l 3))), (6, vI ((stdK (l ()) 0).1 : Nat)), (7, F (stdK (l ()) 0).2), (8, .c (.i .i64 (.l 2)))]) [some ⟨false, 0, .cx l⟩] ?_
      cbv
      repeat' (refine Ob.mk ?_ ?_; (focus (first | with_reducible rfl | exact e1 | exact e2 | exact hl3 | exact ⟨hl3, by decide, by decide⟩ | exact rfl)); cbv)
      rcases bool_ft' (fcmp .lss .f32 (sizeM (driK (l ⟨⟩) 2)) (stdK (l ⟨⟩) 0).2) with h0 | h0
      · have hE := std_f h0
        have e1 : (((stdK (l ⟨⟩) 0).1 : Nat) : Int) = ((stdK (l ⟨⟩) 1).1 : Nat) := by rw [hE]
        have e2 : (stdK (l ⟨⟩) 0).2 = (stdK (l ⟨⟩) 1).2 := by rw [hE]
        refine Br.f h0 ?_
        cbv
        refine Gen.mk (fr 33 [(0, .c (.sl 0 (.l 0) (.l 3))), (6, vI ((stdK (l ()) 1).1 : Nat)), (7, F (stdK (l ()) 1).2), (8, .c (.i .i64 (.l 3)))]) [some ⟨false, 0, .cx l⟩] ?_
        cbv
        repeat' (refine Ob.mk ?_ ?_; (focus (first | with_reducible rfl | exact e1 | exact e2 | exact hl3 | exact ⟨hl3, by decide, by decide⟩ | exact rfl)); cbv)
        rcases bool_ft' (fcmp .lss .f32 (sizeM (driK (l ⟨⟩) 3)) (stdK (l ⟨⟩) 1).2) with h1 | h1
        · have hE := std_f h1
          have e1 : (((stdK (l ⟨⟩) 1).1 : Nat) : Int) = ((stdK (l ⟨⟩) 2).1 : Nat) := by rw [hE]
          have e2 : (stdK (l ⟨⟩) 1).2 = (stdK (l ⟨⟩) 2).2 := by rw [hE]
          refine Br.f h1 ?_
          cbv
          refine Gen.mk (fr 33 [(0, .c (.sl 0 (.l 0) (.l 3))), (6, vI ((stdK (l ()) 2).1 : Nat)), (7, F (stdK (l ()) 2).2), (8, .c (.i .i64 (.l 4)))]) [some ⟨false, 0, .cx l⟩] ?_
          cbv
          repeat' (refine Ob.mk ?_ ?_; (focus (first | with_reducible rfl | exact e1 | exact e2 | exact hl3 | exact ⟨hl3, by decide, by decide⟩ | exact rfl)); cbv)
        · have hE := std_t h1
          have e1 : (3 : Int) = ((stdK (l ⟨⟩) 2).1 : Nat) := by rw [hE]; rfl
          have e2 : sizeM (driK (l ⟨⟩) 3) = (stdK (l ⟨⟩) 2).2 := by rw [hE]
          refine Br.t h1 ?_
          cbv
          refine Gen.mk (fr 33 [(0, .c (.sl 0 (.l 0) (.l 3))), (6, vI ((stdK (l ()) 2).1 : Nat)), (7, F (stdK (l ()) 2).2), (8, .c (.i .i64 (.l 4)))]) [some ⟨false, 0, .cx l⟩] ?_
          cbv
          repeat' (refine Ob.mk ?_ ?_; (focus (first | with_reducible rfl | exact e1 | exact e2 | exact hl3 | exact ⟨hl3, by decide, by decide⟩ | exact rfl)); cbv)
      · have hE := std_t h0
        have e1 : (2 : Int) = ((stdK (l ⟨⟩) 1).1 : Nat) := by rw [hE]; rfl
        have e2 : sizeM (driK (l ⟨⟩) 2) = (stdK (l ⟨⟩) 1).2 := by rw [hE]
        refine Br.t h0 ?_
        cbv
        refine Gen.mk (fr 33 [(0, .c (.sl 0 (.l 0) (.l 3))), (6, vI ((stdK (l ()) 1).1 : Nat)), (7, F (stdK (l ()) 1).2), (8, .c (.i .i64 (.l 3)))]) [some ⟨false, 0, .cx l⟩] ?_
        cbv
        repeat' (refine Ob.mk ?_ ?_; (focus (first | with_reducible rfl | exact e1 | exact e2 | exact hl3 | exact ⟨hl3, by decide, by decide⟩ | exact rfl)); cbv)
        rcases bool_ft' (fcmp .lss .f32 (sizeM (driK (l ⟨⟩) 3)) (stdK (l ⟨⟩) 1).2) with h1 | h1
        · have hE := std_f h1
          have e1 : (((stdK (l ⟨⟩) 1).1 : Nat) : Int) = ((stdK (l ⟨⟩) 2).1 : Nat) := by rw [hE]
          have e2 : (stdK (l ⟨⟩) 1).2 = (stdK (l ⟨⟩) 2).2 := by rw [hE]
          refine Br.f h1 ?_
          cbv
          refine Gen.mk (fr 33 [(0, .c (.sl 0 (.l 0) (.l 3))), (6, vI ((stdK (l ()) 2).1 : Nat)), (7, F (stdK (l ()) 2).2), (8, .c (.i .i64 (.l 4)))]) [some ⟨false, 0, .cx l⟩] ?_
          cbv
          repeat' (refine Ob.mk ?_ ?_; (focus (first | with_reducible rfl | exact e1 | exact e2 | exact hl3 | exact ⟨hl3, by decide, by decide⟩ | exact rfl)); cbv)
        · have hE := std_t h1
          have e1 : (3 : Int) = ((stdK (l ⟨⟩) 2).1 : Nat) := by rw [hE]; rfl
          have e2 : sizeM (driK (l ⟨⟩) 3) = (stdK (l ⟨⟩) 2).2 := by rw [hE]
          refine Br.t h1 ?_
          cbv
          refine Gen.mk (fr 33 [(0, .c (.sl 0 (.l 0) (.l 3))), (6, vI ((stdK (l ()) 2).1 : Nat)), (7, F (stdK (l ()) 2).2), (8, .c (.i .i64 (.l 4)))]) [some ⟨false, 0, .cx l⟩] ?_
          cbv
          repeat' (refine Ob.mk ?_ ?_; (focus (first | with_reducible rfl | exact e1 | exact e2 | exact hl3 | exact ⟨hl3, by decide, by decide⟩ | exact rfl)); cbv)
    · cases hs
  · cases hs
end
end Go.Proofs.Ytanndlifpojenaa.Sh
