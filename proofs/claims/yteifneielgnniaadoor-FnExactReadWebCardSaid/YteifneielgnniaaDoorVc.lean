/- Numbers and words that are read. No condition. -/
import Derived.Test.YteifneielgnniaaDoorVb
set_option linter.unusedVariables false
set_option linter.unusedSimpArgs false
set_option linter.unusedSectionVars false
section
namespace Go.Proofs.YteifneielgnniaaDoor.Sh
open Go Go.Proofs
/-! ## the reference's reading of a number -/
def s36 : Spec := fun args H => match args with
  | [.c (.i .u32 e)] => some (.c (.f .f32 fun _ => e.val.toNat), H, [])
  | _ => none
theorem ok36 : Ok Tryd.prog 36 s36 := by
  intro args H v H' o hs ho μ W w vs hW hH hr
  unfold s36 at hs
  split at hs
  · rename_i e
    cases hs
    match vs, hr with
    | [x], hr =>
      obtain ⟨hx, _⟩ := hr
      have hx : x = .int .u32 e.val := hx
      subst hx
      exact .inr ⟨_, _, ext36 e.val w, μ, agree.refl _ _, Nat.le_refl _, hH, ⟨_, rfl, .inl rfl⟩, Fr.refl _ _⟩
  · cases hs
def rv (l : List UInt8) : Nat := if (l.length == 8 && l.all hok) = true then pv 0 l else 0
def bl (t : ByteArray) : List UInt8 := t.data.toList
theorem pv_snoc (c : UInt8) : ∀ (l : List UInt8) (acc : Nat), pv acc (l ++ [c]) = pv acc l * 16 + hx0 c
  | [], acc => rfl
  | d :: r, acc => pv_snoc c r (acc * 16 + hx0 d)
theorem take_snoc (l : List UInt8) {i : Nat} (h : i < l.length) : l.take (i + 1) = l.take i ++ [l.getD i 0] := by
  rw [List.take_add_one, List.getElem?_eq_getElem h]; simp [List.getD, h]
/-- digits read so far -/
def rd (t : ByteArray) (i : Nat) : Nat := pv 0 ((bl t).take i)
def okTo (t : ByteArray) (i : Nat) : Bool := ((bl t).take i).all hok
def cAt (t : ByteArray) (i : Nat) : UInt8 := (bl t).getD i 0
theorem rd_s {t : ByteArray} (h : t.size = 8) {i : Nat} (hi : i < 8) : rd t (i + 1) = rd t i * 16 + hx0 (cAt t i) := by
  have hl : (bl t).length = 8 := by unfold bl; rw [← h, ← Lib.size_eq]
  unfold rd cAt; rw [take_snoc _ (by omega), pv_snoc]
theorem ok_s {t : ByteArray} (h : t.size = 8) {i : Nat} (hi : i < 8) : okTo t (i + 1) = (okTo t i && hok (cAt t i)) := by
  have hl : (bl t).length = 8 := by unfold bl; rw [← h, ← Lib.size_eq]
  unfold okTo cAt; rw [take_snoc _ (by omega), List.all_append]; simp
theorem rd_lt {t : ByteArray} {i : Nat} (hi : i ≤ 8) (h : okTo t i = true) : rd t i < 16 ^ i := by
  have h1 := pv_lt _ h
  have h2 : ((bl t).take i).length ≤ i := by rw [List.length_take]; omega
  exact Nat.lt_of_lt_of_le h1 (Nat.pow_le_pow_right (by decide) h2)
theorem lt_lit {n m : Nat} (h : ltB ((n : Nat) : Int) ((m : Nat) : Int) = true) : n < m := by rw [ltB_iff] at h; omega
theorem ge_lit {n m : Nat} (h : ltB ((n : Nat) : Int) ((m : Nat) : Int) = false) : m ≤ n := by rw [ltB_no] at h; omega
theorem eq_lit {n m : Nat} (h : (((n : Nat) : Int) != ((m : Nat) : Int)) = false) : n = m := by rw [bne_eq_false_iff_eq] at h; omega
theorem ne_lit {n m : Nat} (h : (((n : Nat) : Int) != ((m : Nat) : Int)) = true) : ¬ n = m := by rw [bne_iff_ne] at h; omega
theorem int_beq (a b : Nat) : (((a : Nat) : Int) == ((b : Nat) : Int)) = (a == b) := by
  by_cases h : a = b
  · subst h; simp
  · rw [beq_eq_false_iff_ne.2 h, beq_eq_false_iff_ne.2 (by omega)]
theorem u32w {x : Int} {n : Nat} (h : x = n) (hn : n < 4294967296) : IntKind.u32.wrap x = n := by rw [h]; exact u32_wrap hn
theorem u8w {x : Int} (h0 : 0 ≤ x) (h1 : x < 256) : IntKind.u8.wrap x = x := by
  unfold IntKind.wrap IntKind.signed IntKind.bits
  simp
  omega
theorem rd_16 {t : ByteArray} {i : Nat} (hi : i < 8) (ho : okTo t i = true) : rd t i * 16 + 15 < 4294967296 := by
  have h := rd_lt (Nat.le_of_lt hi) ho
  have h2 : (16 : Nat) ^ i ≤ 16 ^ 7 := Nat.pow_le_pow_right (by decide) (by omega)
  have h3 : (16 : Nat) ^ 7 = 268435456 := by decide
  omega
theorem step_d {t : ByteArray} {i : Nat} (h8 : t.size = 8) (hi : i < 8) (ho : okTo t i = true) (h0 : (48 : Int) ≤ ((t.data.toList.getD i 0).toNat : Int)) (h1 : ((t.data.toList.getD i 0).toNat : Int) ≤ 57) :
    okTo t (i + 1) = true ∧ IntKind.u32.wrap (IntKind.u32.wrap (((rd t i : Nat) : Int) * 16) + IntKind.u32.wrap (IntKind.u8.wrap (((t.data.toList.getD i 0).toNat : Int) - 48))) = ((rd t (i + 1) : Nat) : Int) := by
  have hc : cAt t i = t.data.toList.getD i 0 := rfl
  have hk : hok (cAt t i) = true := by rw [hc]; unfold hok; exact decide_eq_true (.inl (by omega))
  have hx : hx0 (cAt t i) = (t.data.toList.getD i 0).toNat - 48 := by rw [hc]; unfold hx0; exact if_pos (by omega)
  have hb := rd_16 hi ho
  refine ⟨by rw [ok_s h8 hi, ho, hk]; rfl, ?_⟩
  have e1 : IntKind.u32.wrap (((rd t i : Nat) : Int) * 16) = ((rd t i * 16 : Nat) : Int) := u32w (by omega) (by omega)
  have e2 : IntKind.u32.wrap (((t.data.toList.getD i 0).toNat : Int) - 48) = (((t.data.toList.getD i 0).toNat - 48 : Nat) : Int) := u32w (by omega) (by omega)
  rw [rd_s h8 hi, hx, u8w (by omega) (by omega), e1, e2]
  exact u32w (by omega) (by omega)
theorem step_a {t : ByteArray} {i : Nat} (h8 : t.size = 8) (hi : i < 8) (ho : okTo t i = true) (h0 : (97 : Int) ≤ ((t.data.toList.getD i 0).toNat : Int)) (h1 : ((t.data.toList.getD i 0).toNat : Int) ≤ 102) :
    okTo t (i + 1) = true ∧ IntKind.u32.wrap (IntKind.u32.wrap (IntKind.u32.wrap (((rd t i : Nat) : Int) * 16) + IntKind.u32.wrap (IntKind.u8.wrap (((t.data.toList.getD i 0).toNat : Int) - 97))) + 10) = ((rd t (i + 1) : Nat) : Int) := by
  have hc : cAt t i = t.data.toList.getD i 0 := rfl
  have hk : hok (cAt t i) = true := by rw [hc]; unfold hok; exact decide_eq_true (.inr (by omega))
  have hx : hx0 (cAt t i) = (t.data.toList.getD i 0).toNat - 87 := by rw [hc]; unfold hx0; exact if_neg (by omega)
  have hb := rd_16 hi ho
  refine ⟨by rw [ok_s h8 hi, ho, hk]; rfl, ?_⟩
  have e1 : IntKind.u32.wrap (((rd t i : Nat) : Int) * 16) = ((rd t i * 16 : Nat) : Int) := u32w (by omega) (by omega)
  have e2 : IntKind.u32.wrap (((t.data.toList.getD i 0).toNat : Int) - 97) = (((t.data.toList.getD i 0).toNat - 97 : Nat) : Int) := u32w (by omega) (by omega)
  have e3 : IntKind.u32.wrap (((rd t i * 16 : Nat) : Int) + (((t.data.toList.getD i 0).toNat - 97 : Nat) : Int)) = ((rd t i * 16 + ((t.data.toList.getD i 0).toNat - 97) : Nat) : Int) := u32w (by omega) (by omega)
  rw [rd_s h8 hi, hx, u8w (by omega) (by omega), e1, e2, e3]
  exact u32w (by omega) (by omega)
theorem all_take {l : List UInt8} {p : UInt8 → Bool} (h : l.all p = true) (i : Nat) : (l.take i).all p = true := by
  rw [List.all_eq_true] at h ⊢
  exact fun x hx => h x (List.mem_of_mem_take hx)
theorem bad_c {t : ByteArray} {i : Nat} (h8 : t.size = 8) (hi : i < 8) (h : ¬ ((48 : Int) ≤ ((t.data.toList.getD i 0).toNat : Int) ∧ ((t.data.toList.getD i 0).toNat : Int) ≤ 57)) (h' : ¬ ((97 : Int) ≤ ((t.data.toList.getD i 0).toNat : Int) ∧ ((t.data.toList.getD i 0).toNat : Int) ≤ 102)) : (0 : Nat) = rv (bl t) ∧ false = rnOk (bl t) := by
  have hc : cAt t i = t.data.toList.getD i 0 := rfl
  have hk : hok (cAt t i) = false := by rw [hc]; unfold hok; exact decide_eq_false (by omega)
  have ha : (bl t).all hok = false := by
    cases e : (bl t).all hok with
    | false => rfl
    | true =>
      have := all_take e (i + 1)
      have e2 : okTo t (i + 1) = true := this
      rw [ok_s h8 hi, hk, Bool.and_false] at e2
      cases e2
  unfold rv rnOk
  rw [ha]; simp
theorem bl_len (t : ByteArray) : (bl t).length = t.size := by unfold bl; rw [← Lib.size_eq]
theorem no_8 {t : ByteArray} (h : ¬ t.size = 8) : (0 : Nat) = rv (bl t) ∧ false = rnOk (bl t) := by
  have : ((bl t).length == 8) = false := beq_eq_false_iff_ne.2 (by rw [bl_len]; exact h)
  unfold rv rnOk
  rw [this]; simp
theorem end_8 {t : ByteArray} (h : t.size = 8) (ho : okTo t 8 = true) : rd t 8 = rv (bl t) ∧ (bitsX (rd t 8) == rd t 8) = rnOk (bl t) ∧ rd t 8 < 4294967296 := by
  have hl : (bl t).length = 8 := by rw [bl_len, h]
  have ht : (bl t).take 8 = bl t := List.take_of_length_le (by omega)
  have hlt := rd_lt (Nat.le_refl 8) ho
  unfold okTo at ho
  rw [ht] at ho
  have e : rd t 8 = pv 0 (bl t) := by unfold rd; rw [ht]
  have h16 : (16 : Nat) ^ 8 = 4294967296 := by decide
  unfold rv rnOk
  rw [hl, ho, e]
  refine ⟨rfl, by simp, by omega⟩
theorem fn26 : FnOk Tryd.prog 26 Tryd.f26 (bodyOf Tryd.f26) := ⟨Tryd.func26, rfl, by rfl⟩
attribute [local irreducible] rv rnOk rd okTo cAt bitsX
def s26 : Spec := hspec fun args H => match args, H with
  | [.c (.s t)], [] => some (.t [.c (.f .f32 fun _ => rv (bl (t ()))), .c (.b (.x fun _ => rnOk (bl (t ()))))], [], [])
  | _, _ => none
def E26 : Env := fun g => envGetL [(36, ⟨true, s36, none⟩), (37, ⟨true, s37, none⟩)] g
theorem E26ok : EnvOk Tryd.prog E26 := envOk_cons ok36 (envOk_cons ok37 (envOk_nil _))
set_option maxRecDepth 100000 in
set_option maxHeartbeats 2000000 in
theorem ok26 : Ok Tryd.prog 26 (s26) := ok_of_wpaH (E := E26) mixed tts E26ok fn26 fun args H v H' o hs ho => by
  split at hs
  · rename_i t
    cases hs
    have hz : okTo (t ⟨⟩) 0 = true := by unfold okTo; rw [List.take_zero]; rfl
    have hz2 : ((rd (t ⟨⟩) 0 : Nat) : Int) = 0 := by unfold rd; rw [List.take_zero]; rfl
    refine ⟨_, HLe.refl _, ?_⟩
    cbv
    refine Br.mk (fun h8 => ?_) (fun h8 => ?_)
    · have hn : ¬ (t ⟨⟩).size = 8 := ne_lit (m := 8) h8
      have k1 := (no_8 hn).1
      have k2 := (no_8 hn).2
      cbv
      repeat' (refine Ob.mk ?_ ?_; (focus (first | exact k1 | exact k2)); cbv)
    · have h8' : (t ⟨⟩).size = 8 := eq_lit (m := 8) h8
      clear h8
      cbv
      refine loop_rule (α := Unit → Nat) (c := ⟨tt, E26, 0⟩)
          (fun i => fr 52 [(0, .c (.s t)), (4, .c (.i .u32 (.x fun _ => (rd (t ()) (i ()) : Int)))), (5, .c (.i .i64 (.x fun _ => (i () : Int))))]) (fun i => [])
          (fun i => i () ≤ 8 ∧ okTo (t ()) (i ()) = true) (fun i => 8 - i ()) (fun _ => 9) ?_ ?_
      · refine .mk (fun _ => 0) ⟨Nat.zero_le _, hz⟩ (by dsimp only; omega) ?_
        cbv
        repeat' (refine Ob.mk ?_ ?_; rotate_left)
        all_goals first | exact hz2.symm | exact rfl | trivial
      · intro i hi
        cbv
        refine Br.mk (fun h1 => ?_) (fun h1 => ?_)
        · have h1n : i ⟨⟩ < 8 := lt_lit (m := 8) h1
          have hidx : (0 : Int) ≤ ((i ⟨⟩ : Nat) : Int) ∧ ((i ⟨⟩ : Nat) : Int) < (((t ⟨⟩).size : Nat) : Int) := ⟨Int.natCast_nonneg _, by rw [h8']; omega⟩
          clear h1
          have hd := step_d h8' h1n hi.2
          have ha := step_a h8' h1n hi.2
          have hb := bad_c h8' h1n
          have hw : IntKind.wrap .i64 (((i ⟨⟩ : Nat) : Int) + 1) = ((i ⟨⟩ + 1 : Nat) : Int) := wrap64_nat (by omega)
          cbv
          repeat' first
            | (refine Br.mk (fun h => ?_) (fun h => ?_) <;> cbv)
            | (refine Ob.mk ?_ ?_; rotate_left; cbv)
            | (refine Next.mk (fun _ => i () + 1) ?_ ?_ ?_)
          all_goals (try simp only [Unit.unit, BE.val, IE.val, NE.val, ltB_iff, ltB_no, leB_iff, leB_no, Int.toNat_natCast] at *)
          all_goals first | exact hw | exact hidx | omega | exact (hd (by assumption) (by assumption)).2 | exact (ha (by assumption) (by assumption)).2 | exact ⟨by omega, (hd (by assumption) (by assumption)).1⟩ | exact ⟨by omega, (ha (by assumption) (by assumption)).1⟩ | exact (hb (by omega) (by omega)).1 | exact (hb (by omega) (by omega)).2 | trace_state
        · have h1n : i ⟨⟩ = 8 := Nat.le_antisymm hi.1 (ge_lit (m := 8) h1)
          clear h1
          have k0 : okTo (t ⟨⟩) 8 = true := by rw [← h1n]; exact hi.2
          have k1 := (end_8 h8' k0).1
          have k2 : (((bitsX (rd (t ⟨⟩) 8) : Nat) : Int) == ((rd (t ⟨⟩) 8 : Nat) : Int)) = rnOk (bl (t ⟨⟩)) := by rw [int_beq]; exact (end_8 h8' k0).2.1
          have k3 := (end_8 h8' k0).2.2
          cbv
          repeat' first
            | (refine Br.mk (fun h => ?_) (fun h => ?_) <;> cbv)
            | (refine Ob.mk ?_ ?_; rotate_left; cbv)
          all_goals (try simp only [Unit.unit, BE.val, IE.val, NE.val, ltB_iff, ltB_no, leB_iff, leB_no, Int.toNat_natCast, h1n] at *)
          all_goals first | exact k1 | exact k2 | exact k3 | trace_state
  · cases hs
end Go.Proofs.YteifneielgnniaaDoor.Sh
end
section
namespace Go.Proofs.YteifneielgnniaaDoor.Sh
open Go Go.Proofs
/-! ## spec.ReadNumber, the marks -/
theorem fn14 : FnOk Tryd.prog 14 Tryd.f14 (bodyOf Tryd.f14) := ⟨Tryd.func14, rfl, by rfl⟩
theorem rn_t {l : List UInt8} (h : rnOk l = true) : rv l = rn l ∧ 0 = rnC l := by
  have h2 := h
  unfold rnOk at h2
  simp only [Bool.and_eq_true] at h2
  unfold rv rn rnC
  rw [h, h2.1.1, h2.1.2]
  exact ⟨rfl, rfl⟩
theorem rn_f {l : List UInt8} (h : rnOk l = false) : 0 = rn l ∧ 5 = rnC l := by
  unfold rn rnC
  rw [h]
  exact ⟨rfl, rfl⟩
attribute [local irreducible] rv rnOk rn rnC
def s14 : Spec := hspec fun args H => match args, H with
  | [.c (.s t)], [] => some (.t [.c (.f .f32 fun _ => rn (bl (t ()))), .c (.i .i64 (.x fun _ => rnC (bl (t ()))))], [], [])
  | _, _ => none
def E14 : Env := fun g => envGetL [(26, ⟨true, s26, none⟩)] g
theorem E14ok : EnvOk Tryd.prog E14 := envOk_cons ok26 (envOk_nil _)
set_option maxRecDepth 100000 in
set_option maxHeartbeats 2000000 in
theorem ok14 : Ok Tryd.prog 14 (s14) := ok_of_wpaH (E := E14) mixed tts E14ok fn14 fun args H v H' o hs ho => by
  split at hs
  · rename_i t
    cases hs
    refine ⟨_, HLe.refl _, ?_⟩
    cbv
    rcases bool_ft (rnOk (bl (t ⟨⟩))) with h | h
    · have k1 := (rn_f h).1
      have k2 := (rn_f h).2
      refine Br.t (nft h) ?_
      cbv
      repeat' (refine Ob.mk ?_ ?_; (focus (first | exact k1 | exact k2)); cbv)
    · have k1 := (rn_t h).1
      have k2 := (rn_t h).2
      refine Br.f (ntf h) ?_
      cbv
      repeat' (refine Ob.mk ?_ ?_; (focus (first | exact k1 | exact k2)); cbv)
  · cases hs
end Go.Proofs.YteifneielgnniaaDoor.Sh
end
section
namespace Go.Proofs.YteifneielgnniaaDoor.Sh
open Go Go.Proofs
/-! ## spec.l01Split -/
abbrev Gh := Nat × Nat × List (List UInt8)
def wordAt (t : ByteArray) (f i : Nat) : List UInt8 := ((bl t).drop f).take (i - f)
def JS (c : UInt8) (t : ByteArray) (g : Gh) : Prop := g.2.1 ≤ g.1 ∧ g.1 ≤ t.size ∧ g.2.2.length ≤ g.1 ∧ g.2.2 ++ splA c (wordAt t g.2.1 g.1) ((bl t).drop g.1) = wds c t
theorem js_0 (c : UInt8) (t : ByteArray) : JS c t (0, 0, []) := ⟨Nat.le_refl _, Nat.zero_le _, Nat.le_refl _, by simp [wordAt, wds, spl, bl]⟩
theorem js_drop {t : ByteArray} {i : Nat} (hi : i < t.size) : (bl t).drop i = (bl t).getD i 0 :: (bl t).drop (i + 1) := by
  have hl := bl_len t
  rw [List.drop_eq_getElem_cons (by omega)]
  simp [List.getD, List.getElem?_eq_getElem (show i < (bl t).length by omega)]
theorem js_ne {c : UInt8} {t : ByteArray} {g : Gh} (h : JS c t g) (hi : g.1 < t.size) (hc : ¬ (bl t).getD g.1 0 = c) : JS c t (g.1 + 1, g.2.1, g.2.2) := by
  obtain ⟨h1, h2, h3, h4⟩ := h
  refine ⟨by simp only; omega, by simp only; omega, by simp only; omega, ?_⟩
  rw [js_drop hi, splA_ne hc] at h4
  rw [← h4]
  have : wordAt t g.2.1 (g.1 + 1) = wordAt t g.2.1 g.1 ++ [(bl t).getD g.1 0] := by
    unfold wordAt
    have hl := bl_len t
    rw [show g.1 + 1 - g.2.1 = (g.1 - g.2.1) + 1 by omega, take_snoc _ (by rw [List.length_drop]; omega)]
    congr 2
    simp [List.getD, List.getElem?_drop, show g.2.1 + (g.1 - g.2.1) = g.1 by omega]
  simp only [this]
theorem js_eq {c : UInt8} {t : ByteArray} {g : Gh} (h : JS c t g) (hi : g.1 < t.size) (hc : (bl t).getD g.1 0 = c) : JS c t (g.1 + 1, g.1 + 1, g.2.2 ++ [wordAt t g.2.1 g.1]) := by
  obtain ⟨h1, h2, h3, h4⟩ := h
  refine ⟨by simp only; omega, by simp only; omega, by simp only [List.length_append, List.length_singleton]; omega, ?_⟩
  rw [js_drop hi, splA_eq hc] at h4
  rw [← h4]
  have : wordAt t (g.1 + 1) (g.1 + 1) = [] := by unfold wordAt; simp
  simp [this]
theorem js_end {c : UInt8} {t : ByteArray} {g : Gh} (h : JS c t g) (hi : g.1 = t.size) : g.2.2 ++ [wordAt t g.2.1 t.size] = wds c t := by
  obtain ⟨h1, h2, h3, h4⟩ := h
  rw [← h4, hi, List.drop_eq_nil_of_le (by rw [bl_len]; exact Nat.le_refl _)]
  rfl
theorem ext_word (t : ByteArray) {f i : Nat} (h : i ≤ t.size) : t.extract f i = tx (wordAt t f i) := by
  rw [← tx_data (t.extract f i)]
  congr 1
  rw [Lib.extract_data]
  rfl
end Go.Proofs.YteifneielgnniaaDoor.Sh
end
section
namespace Go.Proofs.YteifneielgnniaaDoor.Sh
open Go Go.Proofs
theorem fn13 : FnOk Tryd.prog 13 Tryd.f13 (bodyOf Tryd.f13) := ⟨Tryd.func13, rfl, by rfl⟩
theorem js_bd {c : UInt8} {t : ByteArray} {g : Gh} (h : JS c t g) : g.2.1 ≤ g.1 ∧ g.1 ≤ t.size ∧ g.2.2.length ≤ g.1 := ⟨h.1, h.2.1, h.2.2.1⟩
attribute [local irreducible] wds tx wordAt JS
theorem u8_beq (x c : UInt8) : (((x.toNat : Nat) : Int) == ((c.toNat : Nat) : Int)) = true ↔ x = c := by
  rw [beq_iff_eq]
  constructor
  · intro h; exact UInt8.toNat_inj.1 (by omega)
  · intro h; rw [h]
def s13 (c : UInt8) : Spec := hspec fun args H => match args, H with
  | [.c (.s t), .c (.i .u8 (.x k))], [] => some (.c (.sl 0 (.l 0) (.x fun _ => (wds c (t ())).length)), [some ⟨true, 1, .sx fun _ => (wds c (t ())).map tx⟩], [fun _ => k () = (c.toNat : Int) ∧ (t ()).size ≤ 1048576])
  | _, _ => none
set_option maxRecDepth 100000 in
set_option maxHeartbeats 4000000 in
theorem ok13 (c : UInt8) : Ok Tryd.prog 13 (s13 c) := ok_of_wpaH (E := envGetL []) mixed tts (envOk_nil _) fn13 fun args H v H' o hs ho => by
  split at hs
  · rename_i t k
    cases hs
    have hk := ho.one.1
    have hsz := ho.one.2
    have h0 := js_0 c (t ⟨⟩)
    refine ⟨_, HLe.refl _, ?_⟩
    cbv
    refine loop_rule (α := Unit → Gh) (c := ⟨tt, envGetL [], 0⟩)
        (fun g => fr 35 [(0, .c (.s t)), (1, .c (.i .u8 (.x k))), (5, .c (.sl 0 (.l 0) (.x fun _ => (g ()).2.2.length))), (6, .c (.i .i64 (.x fun _ => ((g ()).2.1 : Int)))), (7, .c (.i .i64 (.x fun _ => ((g ()).1 : Int))))])
        (fun g => [some ⟨true, 1, .sx fun _ => (g ()).2.2.map tx⟩])
        (fun g => JS c (t ()) (g ())) (fun g => (t ()).size - (g ()).1) (fun _ => (t ()).size + 1) ?_ ?_
    · refine .mk (fun _ => (0, 0, [])) h0 (by dsimp only; omega) ?_
      cbv
      repeat' (refine Ob.mk ?_ ?_; rotate_left)
      all_goals first | exact rfl | trivial
    · intro g hg
      have q : (g ⟨⟩).2.1 ≤ (g ⟨⟩).1 ∧ (g ⟨⟩).1 ≤ (t ⟨⟩).size ∧ (g ⟨⟩).2.2.length ≤ (g ⟨⟩).1 := js_bd hg
      have q1 := q.1
      have q2 := q.2.1
      have q3 := q.2.2
      have hb1 : (g ⟨⟩).2.2.length + 1 ≤ 9223372036854775807 := by omega
      have hb2 : ((g ⟨⟩).2.2.length + 1) * 16 ≤ 140737488355328 := by omega
      have hb3 : ((g ⟨⟩).2.2.map tx).length = (g ⟨⟩).2.2.length * 1 := by rw [List.length_map, Nat.mul_one]
      have hw : IntKind.wrap .i64 (((g ⟨⟩).1 : Int) + 1) = (((g ⟨⟩).1 + 1 : Nat) : Int) := wrap64_nat (by omega)
      cbv
      refine Br.mk (fun h1 => ?_) (fun h1 => ?_)
      · have h1n : (g ⟨⟩).1 < (t ⟨⟩).size := lt_lit h1
        have hidx : (0 : Int) ≤ (((g ⟨⟩).1 : Nat) : Int) ∧ (((g ⟨⟩).1 : Nat) : Int) < (((t ⟨⟩).size : Nat) : Int) := ⟨Int.natCast_nonneg _, Int.ofNat_lt.2 h1n⟩
        have hm : (t ⟨⟩).size - ((g ⟨⟩).1 + 1) < (t ⟨⟩).size - (g ⟨⟩).1 := by omega
        clear h1
        cbv
        refine Ob.mk hidx ?_
        cbv
        refine Br.mk (fun h => ?_) (fun h => ?_)
        · have hc : (bl (t ⟨⟩)).getD (g ⟨⟩).1 0 = c := by
            have h' : (((((bl (t ⟨⟩)).getD (g ⟨⟩).1 0).toNat : Nat) : Int) == k ⟨⟩) = true := h
            rw [hk] at h'
            exact (u8_beq _ c).1 h'
          have hj := js_eq hg h1n hc
          have hl : (g ⟨⟩).2.2.map tx ++ [(t ⟨⟩).extract (g ⟨⟩).2.1 (g ⟨⟩).1] = ((g ⟨⟩).2.2 ++ [wordAt (t ⟨⟩) (g ⟨⟩).2.1 (g ⟨⟩).1]).map tx := by
            rw [List.map_append, ext_word _ q2]; rfl
          have hln : (g ⟨⟩).2.2.length + 1 = ((g ⟨⟩).2.2 ++ [wordAt (t ⟨⟩) (g ⟨⟩).2.1 (g ⟨⟩).1]).length := by simp
          have hb4 : (0 : Int) ≤ (((g ⟨⟩).2.1 : Nat) : Int) ∧ (((g ⟨⟩).2.1 : Nat) : Int) ≤ (((g ⟨⟩).1 : Nat) : Int) ∧ (((g ⟨⟩).1 : Nat) : Int) ≤ (((t ⟨⟩).size : Nat) : Int) := ⟨Int.natCast_nonneg _, Int.ofNat_le.2 q1, Int.ofNat_le.2 q2⟩
          clear h
          cbv
          repeat' first
            | (refine Ob.mk ?_ ?_; rotate_left; cbv)
            | (refine Next.ren [2] (fun _ => ((g ()).1 + 1, (g ()).1 + 1, (g ()).2.2 ++ [wordAt (t ()) (g ()).2.1 (g ()).1])) ?_ ?_ ?_)
          all_goals first | exact hj | exact hm | exact hl | exact hw | exact hln | exact hb4 | exact hb3 | exact hb2 | exact hb1 | exact rfl | trivial
        · have hc : ¬ (bl (t ⟨⟩)).getD (g ⟨⟩).1 0 = c := fun e => by
            have := (u8_beq _ c).2 e
            have h' : (((((bl (t ⟨⟩)).getD (g ⟨⟩).1 0).toNat : Nat) : Int) == k ⟨⟩) = false := h
            rw [hk] at h'
            exact absurd (this.symm.trans h') (by decide)
          have hj := js_ne hg h1n hc
          clear h
          cbv
          repeat' first
            | (refine Ob.mk ?_ ?_; rotate_left; cbv)
            | (refine Next.mk (fun _ => ((g ()).1 + 1, (g ()).2.1, (g ()).2.2)) ?_ ?_ ?_)
          all_goals first | exact hj | exact hm | exact hw | exact rfl | trivial
      · have h1n : (g ⟨⟩).1 = (t ⟨⟩).size := Nat.le_antisymm q2 (ge_lit h1)
        have hj := js_end hg h1n
        have hl : (g ⟨⟩).2.2.map tx ++ [(t ⟨⟩).extract (g ⟨⟩).2.1 (t ⟨⟩).size] = (wds c (t ⟨⟩)).map tx := by
          rw [← hj, List.map_append, ext_word _ (Nat.le_refl _)]; rfl
        have hln : (g ⟨⟩).2.2.length + 1 = (wds c (t ⟨⟩)).length := by rw [← hj]; simp
        have hb4 : (0 : Int) ≤ (((g ⟨⟩).2.1 : Nat) : Int) ∧ (((g ⟨⟩).2.1 : Nat) : Int) ≤ (((t ⟨⟩).size : Nat) : Int) ∧ (((t ⟨⟩).size : Nat) : Int) ≤ (((t ⟨⟩).size : Nat) : Int) := ⟨Int.natCast_nonneg _, Int.ofNat_le.2 (by omega), Int.le_refl _⟩
        clear h1
        cbv
        repeat' first
          | (refine Ob.mk ?_ ?_; rotate_left; cbv)
        all_goals first | exact hl | exact hln | exact hb4 | exact hb3 | exact hb2 | exact hb1 | exact rfl | trivial | trace_state
  · cases hs
end Go.Proofs.YteifneielgnniaaDoor.Sh
end
section
namespace Go.Proofs.YteifneielgnniaaDoor.Sh
open Go Go.Proofs
/-! ## impl.readNumbers -/
def nrOk (m : Nat) (t : ByteArray) : Bool := decide (t.size + 1 = 9 * m) && (wds 32 t).all rnOk
def wAt (t : ByteArray) (i : Nat) : List UInt8 := (wds 32 t).getD i []
theorem getD_map {α β : Type} (f : α → β) (l : List α) (i : Nat) (d : α) (e : β) (h : f d = e) : (l.map f).getD i e = f (l.getD i d) := by
  simp only [List.getD, List.getElem?_map]
  cases l[i]? with
  | none => exact h.symm
  | some x => rfl
theorem tx_e : tx [] = ByteArray.empty := rfl
theorem bl_tx (l : List UInt8) : bl (tx l) = l := rfl
theorem bl_at (t : ByteArray) (i : Nat) : bl (((wds 32 t).map tx).getD i ByteArray.empty) = wAt t i := by
  rw [getD_map tx _ i [] _ tx_e]; rfl
theorem size_at (t : ByteArray) (i : Nat) (h : t.size ≤ 1048576) : (((wds 32 t).map tx).getD i ByteArray.empty).size ≤ 281474976710656 := by
  rw [← bl_len, bl_at]
  unfold wAt
  have h1 := splA_tot 32 (bl t) []
  have key : ∀ (ws : List (List UInt8)) (i : Nat), (ws.getD i []).length ≤ sumL ws := by
    intro ws
    induction ws with
    | nil => intro i; simp
    | cons w ws ih =>
      intro i
      cases i with
      | zero => simp [sumL]; omega
      | succ i => have := ih i; simp only [List.getD_cons_succ, sumL]; omega
  have h2 := key (wds 32 t) i
  have h3 : sumL (wds 32 t) = t.size + 1 := by
    show sumL (splA 32 [] (bl t)) = _
    rw [h1, bl_len]; simp
  omega
theorem nr_num {m : Nat} {t : ByteArray} (h : nrOk m t = true) : (wds 32 t).length = m := by
  unfold nrOk at h
  simp only [Bool.and_eq_true, decide_eq_true_eq] at h
  refine spl_num (k := 8) (fun w hw => ?_) (by rw [show t.data.toList.length = t.size from bl_len t]; exact h.1)
  have := List.all_eq_true.1 h.2 w hw
  exact (rnOk_p16 (t := tx w) this).2.2.2
def goodTo (t : ByteArray) (i : Nat) : Bool := ((wds 32 t).take i).all rnOk
theorem good_0 (t : ByteArray) : goodTo t 0 = true := by unfold goodTo; rw [List.take_zero]; rfl
theorem take_s {l : List (List UInt8)} {i : Nat} (h : i < l.length) : l.take (i + 1) = l.take i ++ [l.getD i []] := by
  rw [List.take_add_one, List.getElem?_eq_getElem h]; simp [List.getD, h]
theorem good_s {t : ByteArray} {i : Nat} (hi : i < (wds 32 t).length) : goodTo t (i + 1) = (goodTo t i && rnOk (wAt t i)) := by
  unfold goodTo wAt; rw [take_s hi, List.all_append]; simp
theorem good_all {t : ByteArray} {i : Nat} (hi : (wds 32 t).length ≤ i) (h : goodTo t i = true) : (wds 32 t).all rnOk = true := by
  unfold goodTo at h; rw [List.take_of_length_le hi] at h; exact h
theorem all_at {t : ByteArray} {i : Nat} (hi : i < (wds 32 t).length) (h : (wds 32 t).all rnOk = true) : rnOk (wAt t i) = true := by
  have := List.all_eq_true.1 h ((wds 32 t)[i]) (List.getElem_mem hi)
  unfold wAt
  simpa [List.getD, List.getElem?_eq_getElem hi] using this
/-- the numbers so far -/
def numsTo (t : ByteArray) (i : Nat) : List Nat := ((wds 32 t).take i).map rn
def numsOf (t : ByteArray) : List Nat := (wds 32 t).map rn
theorem nums_0 (t : ByteArray) : [] = numsTo t 0 := by unfold numsTo; rw [List.take_zero]; rfl
theorem nums_s {t : ByteArray} {i : Nat} (hi : i < (wds 32 t).length) : numsTo t i ++ [rn (wAt t i)] = numsTo t (i + 1) := by
  unfold numsTo wAt; rw [take_s hi, List.map_append]; rfl
theorem nums_len {t : ByteArray} {i : Nat} (hi : i ≤ (wds 32 t).length) : (numsTo t i).length = i := by
  unfold numsTo; rw [List.length_map, List.length_take]; omega
theorem nums_end (t : ByteArray) : numsTo t (wds 32 t).length = numsOf t := by
  unfold numsTo numsOf; rw [List.take_length]
theorem wds_le (c : UInt8) (t : ByteArray) : (wds c t).length ≤ t.size + 1 := by
  have := splA_le c (bl t) []
  rw [bl_len] at this; exact this
theorem fn16 : FnOk Tryd.prog 16 Tryd.f16 (bodyOf Tryd.f16) := ⟨Tryd.func16, rfl, by rfl⟩
theorem len_test {n m : Nat} {k : Int} (hk : k = (m : Int)) (hm : m ≤ 3) : ((((n : Nat) : Int) != IntKind.i64.wrap (IntKind.i64.wrap (9 * k) - 1)) = true ↔ ¬ n + 1 = 9 * m) := by
  have e1 : IntKind.i64.wrap (9 * (m : Int)) = 9 * (m : Int) := wrap64 (by omega) (by omega)
  have e2 : IntKind.i64.wrap (9 * (m : Int) - 1) = 9 * (m : Int) - 1 := wrap64 (by omega) (by omega)
  rw [hk, e1, e2, bne_iff_ne]
  omega
theorem nr_len {m : Nat} {t : ByteArray} (h : nrOk m t = true) : t.size + 1 = 9 * m ∧ (wds 32 t).all rnOk = true := by
  unfold nrOk at h
  simpa only [Bool.and_eq_true, decide_eq_true_eq] using h
theorem nr_no {m : Nat} {t : ByteArray} (h : nrOk m t = false) (hl : t.size + 1 = 9 * m) : (wds 32 t).all rnOk = false := by
  unfold nrOk at h
  rw [decide_eq_true hl, Bool.true_and] at h; exact h
theorem rnC_t {l : List UInt8} (h : rnOk l = true) : (rnC l != 0) = false := by unfold rnC; rw [h]; rfl
theorem rnC_f {l : List UInt8} (h : rnOk l = false) : (rnC l != 0) = true := by unfold rnC; rw [h]; rfl
attribute [local irreducible] wds tx rn rnC rnOk nrOk numsTo numsOf goodTo
def s16T (m : Nat) : Spec := hspec fun args H => match args, H with
  | [.c (.s t), .c (.i .i64 (.x k))], [] => some (.t [.c (.sl 0 (.l 0) (.x fun _ => m)), .c (.b (.l true))], [some ⟨true, 1, .fl fun _ => numsOf (t ())⟩], [fun _ => nrOk m (t ()) = true, fun _ => k () = (m : Int) ∧ (t ()).size ≤ 1048576 ∧ m ≤ 3])
  | _, _ => none
def E16 : Env := fun g => envGetL [(27, ⟨true, s27 32, none⟩), (28, ⟨true, s28, none⟩)] g
theorem E16ok : EnvOk Tryd.prog E16 := envOk_cons (ok27 32) (envOk_cons ok28 (envOk_nil _))
set_option maxRecDepth 100000 in
set_option maxHeartbeats 4000000 in
theorem ok16T (m : Nat) : Ok Tryd.prog 16 (s16T m) := ok_of_wpaH (E := E16) mixed tts E16ok fn16 fun args H v H' o hs ho => by
  split at hs
  · rename_i t k
    cases hs
    have hok : nrOk m (t ⟨⟩) = true := ho.two.1
    have hk : k ⟨⟩ = (m : Int) := ho.two.2.1
    have hsz : (t ⟨⟩).size ≤ 1048576 := ho.two.2.2.1
    have hm3 : m ≤ 3 := ho.two.2.2.2
    have hlt : ((((t ⟨⟩).size : Nat) : Int) != IntKind.i64.wrap (IntKind.i64.wrap (9 * k ⟨⟩) - 1)) = false := by
      cases e : ((((t ⟨⟩).size : Nat) : Int) != IntKind.i64.wrap (IntKind.i64.wrap (9 * k ⟨⟩) - 1)) with
      | false => rfl
      | true => exact absurd (nr_len hok).1 ((len_test hk hm3).1 e)
    have hall := (nr_len hok).2
    have hnum := nr_num hok
    have hwl := wds_le 32 (t ⟨⟩)
    have n0 := nums_0 (t ⟨⟩)
    have hsp : ({ data := #[32] } : ByteArray) = ({ data := #[32] } : ByteArray) ∧ (t ⟨⟩).size < 4294967281 := ⟨rfl, by omega⟩
    refine ⟨_, HLe.refl _, ?_⟩
    cbv
    refine Br.f hlt ?_
    cbv
    refine Ob.mk hsp ?_
    cbv
    refine loop_rule (α := Unit → Nat) (c := ⟨tt, E16, 0⟩)
        (fun i => fr 42 [(1, .c (.i .i64 (.x k))), (6, .c (.sl 0 (.l 0) (.x fun _ => i ()))), (19, .c (.sl 1 (.l 0) (.x fun _ => (wds 32 (t ())).length))), (20, .c (.i .i64 (.x fun _ => ((wds 32 (t ())).length : Int)))), (21, .c (.i .i64 (.x fun _ => (i () : Int))))])
        (fun i => [some ⟨true, 1, .fl fun _ => numsTo (t ()) (i ())⟩, some ⟨true, 1, .sx fun _ => (wds 32 (t ())).map tx⟩])
        (fun i => i () ≤ (wds 32 (t ())).length ∧ goodTo (t ()) (i ()) = true) (fun i => (wds 32 (t ())).length - i ()) (fun _ => (wds 32 (t ())).length + 1) ?_ ?_
    · refine .mk (fun _ => 0) ⟨Nat.zero_le _, good_0 _⟩ (by dsimp only; omega) ?_
      cbv
      repeat' (refine Ob.mk ?_ ?_; rotate_left)
      all_goals first | exact rfl | exact n0 | trivial
    · intro i hi
      have hi1 : i ⟨⟩ ≤ (wds 32 (t ⟨⟩)).length := hi.1
      have hi2 : goodTo (t ⟨⟩) (i ⟨⟩) = true := hi.2
      have hb1 : i ⟨⟩ + 1 ≤ 9223372036854775807 := by omega
      have hb2 : (i ⟨⟩ + 1) * 4 ≤ 140737488355328 := by omega
      have hb3 : (numsTo (t ⟨⟩) (i ⟨⟩)).length = i ⟨⟩ * 1 := by rw [nums_len hi1, Nat.mul_one]
      have hw : IntKind.wrap .i64 (((i ⟨⟩ : Nat) : Int) + 1) = ((i ⟨⟩ + 1 : Nat) : Int) := wrap64_nat (by omega)
      have hp : 0 + ((i ⟨⟩ : Nat) : Int).toNat * 1 = i ⟨⟩ := by rw [Int.toNat_natCast]; omega
      have hsa := size_at (t ⟨⟩) (0 + ((i ⟨⟩ : Nat) : Int).toNat * 1) hsz
      have hba : bl (((wds 32 (t ⟨⟩)).map tx).getD (0 + ((i ⟨⟩ : Nat) : Int).toNat * 1) ByteArray.empty) = wAt (t ⟨⟩) (i ⟨⟩) := by rw [bl_at, hp]
      cbv
      refine Br.mk (fun h1 => ?_) (fun h1 => ?_)
      · have h1n : i ⟨⟩ < (wds 32 (t ⟨⟩)).length := lt_lit h1
        have hgo := all_at h1n hall
        have hidx : (0 : Int) ≤ ((i ⟨⟩ : Nat) : Int) ∧ ((i ⟨⟩ : Nat) : Int) < (((wds 32 (t ⟨⟩)).length : Nat) : Int) := ⟨Int.natCast_nonneg _, Int.ofNat_lt.2 h1n⟩
        have hix : 0 + ((i ⟨⟩ : Nat) : Int).toNat * 1 < ((wds 32 (t ⟨⟩)).map tx).length := by rw [List.length_map, hp]; exact h1n
        have hm : (wds 32 (t ⟨⟩)).length - (i ⟨⟩ + 1) < (wds 32 (t ⟨⟩)).length - i ⟨⟩ := by omega
        have hon : (rnC (bl (((wds 32 (t ⟨⟩)).map tx).getD (0 + ((i ⟨⟩ : Nat) : Int).toNat * 1) ByteArray.empty)) != 0) = false := by rw [hba]; exact rnC_t hgo
        have hj : i ⟨⟩ + 1 ≤ (wds 32 (t ⟨⟩)).length ∧ goodTo (t ⟨⟩) (i ⟨⟩ + 1) = true := ⟨h1n, by rw [good_s h1n, hi2, hgo]; rfl⟩
        have hnl : numsTo (t ⟨⟩) (i ⟨⟩) ++ [rn (bl (((wds 32 (t ⟨⟩)).map tx).getD (0 + ((i ⟨⟩ : Nat) : Int).toNat * 1) ByteArray.empty))] = numsTo (t ⟨⟩) (i ⟨⟩ + 1) := by rw [hba]; exact nums_s h1n
        clear h1
        cbv
        repeat' first
          | (refine Ob.mk ?_ ?_; (focus (first | exact hidx | exact hix | exact hsa | exact hb3 | exact hb2 | exact hb1 | exact rfl)); cbv)
          | (refine Br.f hon ?_; cbv)
          | (refine Next.ren [3, 1] (fun _ => i () + 1) ?_ ?_ ?_)
        all_goals first | exact hj | exact hm | ((repeat' (refine Ob.mk ?_ ?_; (focus (first | exact hnl | exact hw | exact rfl)))); trivial) | trace_state
      · have h1n : i ⟨⟩ = (wds 32 (t ⟨⟩)).length := Nat.le_antisymm hi1 (ge_lit h1)
        have he1 : (((i ⟨⟩ : Nat) : Int) == k ⟨⟩) = true := by rw [h1n, hnum, hk]; exact beq_self_eq_true _
        have he2 : i ⟨⟩ = m := by rw [h1n, hnum]
        have he3 : numsTo (t ⟨⟩) (i ⟨⟩) = numsOf (t ⟨⟩) := by rw [h1n]; exact nums_end _
        clear h1
        cbv
        repeat' (refine Ob.mk ?_ ?_; (focus (first | exact he1 | exact he2 | exact he3 | exact rfl)); cbv)
  · cases hs
def s16F (m : Nat) : Spec := hspec fun args H => match args, H with
  | [.c (.s t), .c (.i .i64 (.x k))], [] => some (.t [.c .sn, .c (.b (.l false))], [], [fun _ => nrOk m (t ()) = false, fun _ => k () = (m : Int) ∧ (t ()).size ≤ 1048576 ∧ m ≤ 3])
  | _, _ => none
set_option maxRecDepth 100000 in
set_option maxHeartbeats 4000000 in
theorem ok16F (m : Nat) : Ok Tryd.prog 16 (s16F m) := ok_of_wpaH (E := E16) mixed tts E16ok fn16 fun args H v H' o hs ho => by
  split at hs
  · rename_i t k
    cases hs
    have hok : nrOk m (t ⟨⟩) = false := ho.two.1
    have hk : k ⟨⟩ = (m : Int) := ho.two.2.1
    have hsz : (t ⟨⟩).size ≤ 1048576 := ho.two.2.2.1
    have hm3 : m ≤ 3 := ho.two.2.2.2
    have hwl := wds_le 32 (t ⟨⟩)
    have n0 := nums_0 (t ⟨⟩)
    have hsp : ({ data := #[32] } : ByteArray) = ({ data := #[32] } : ByteArray) ∧ (t ⟨⟩).size < 4294967281 := ⟨rfl, by omega⟩
    refine ⟨_, HLe.refl _, ?_⟩
    cbv
    refine Br.mk (fun hlt => ?_) (fun hlt => ?_)
    · cbv
      repeat' (refine Ob.mk rfl ?_; cbv)
    · have hl9 : (t ⟨⟩).size + 1 = 9 * m := by
        rcases Nat.decEq ((t ⟨⟩).size + 1) (9 * m) with h | h
        · have := (len_test (n := (t ⟨⟩).size) hk hm3).2 h
          exact absurd (this.symm.trans hlt) (by decide)
        · exact h
      have hall := nr_no hok hl9
      clear hlt
      cbv
      refine Ob.mk hsp ?_
      cbv
      refine loop_rule (α := Unit → Nat) (c := ⟨tt, E16, 0⟩)
          (fun i => fr 42 [(1, .c (.i .i64 (.x k))), (6, .c (.sl 0 (.l 0) (.x fun _ => i ()))), (19, .c (.sl 1 (.l 0) (.x fun _ => (wds 32 (t ())).length))), (20, .c (.i .i64 (.x fun _ => ((wds 32 (t ())).length : Int)))), (21, .c (.i .i64 (.x fun _ => (i () : Int))))])
          (fun i => [some ⟨true, 1, .fl fun _ => numsTo (t ()) (i ())⟩, some ⟨true, 1, .sx fun _ => (wds 32 (t ())).map tx⟩])
          (fun i => i () ≤ (wds 32 (t ())).length ∧ goodTo (t ()) (i ()) = true) (fun i => (wds 32 (t ())).length - i ()) (fun _ => (wds 32 (t ())).length + 1) ?_ ?_
      · refine .mk (fun _ => 0) ⟨Nat.zero_le _, good_0 _⟩ (by dsimp only; omega) ?_
        cbv
        repeat' (refine Ob.mk ?_ ?_; rotate_left)
        all_goals first | exact rfl | exact n0 | trivial
      · intro i hi
        have hi1 : i ⟨⟩ ≤ (wds 32 (t ⟨⟩)).length := hi.1
        have hi2 : goodTo (t ⟨⟩) (i ⟨⟩) = true := hi.2
        have hb1 : i ⟨⟩ + 1 ≤ 9223372036854775807 := by omega
        have hb2 : (i ⟨⟩ + 1) * 4 ≤ 140737488355328 := by omega
        have hb3 : (numsTo (t ⟨⟩) (i ⟨⟩)).length = i ⟨⟩ * 1 := by rw [nums_len hi1, Nat.mul_one]
        have hw : IntKind.wrap .i64 (((i ⟨⟩ : Nat) : Int) + 1) = ((i ⟨⟩ + 1 : Nat) : Int) := wrap64_nat (by omega)
        have hp : 0 + ((i ⟨⟩ : Nat) : Int).toNat * 1 = i ⟨⟩ := by rw [Int.toNat_natCast]; omega
        have hsa := size_at (t ⟨⟩) (0 + ((i ⟨⟩ : Nat) : Int).toNat * 1) hsz
        have hba : bl (((wds 32 (t ⟨⟩)).map tx).getD (0 + ((i ⟨⟩ : Nat) : Int).toNat * 1) ByteArray.empty) = wAt (t ⟨⟩) (i ⟨⟩) := by rw [bl_at, hp]
        have h1n : i ⟨⟩ < (wds 32 (t ⟨⟩)).length := by
          rcases Nat.lt_or_ge (i ⟨⟩) (wds 32 (t ⟨⟩)).length with h | h
          · exact h
          · have := good_all h hi2
            rw [hall] at this; cases this
        have hlb : ltB ((i ⟨⟩ : Nat) : Int) (((wds 32 (t ⟨⟩)).length : Nat) : Int) = true := by rw [ltB_iff]; exact Int.ofNat_lt.2 h1n
        rcases bool_ft (rnOk (wAt (t ⟨⟩) (i ⟨⟩))) with hgo | hgo
        · have hidx : (0 : Int) ≤ ((i ⟨⟩ : Nat) : Int) ∧ ((i ⟨⟩ : Nat) : Int) < (((wds 32 (t ⟨⟩)).length : Nat) : Int) := ⟨Int.natCast_nonneg _, Int.ofNat_lt.2 h1n⟩
          have hix : 0 + ((i ⟨⟩ : Nat) : Int).toNat * 1 < ((wds 32 (t ⟨⟩)).map tx).length := by rw [List.length_map, hp]; exact h1n
          have hon : (rnC (bl (((wds 32 (t ⟨⟩)).map tx).getD (0 + ((i ⟨⟩ : Nat) : Int).toNat * 1) ByteArray.empty)) != 0) = true := by rw [hba]; exact rnC_f hgo
          cbv
          refine Br.t hlb ?_
          cbv
          repeat' first
            | (refine Ob.mk ?_ ?_; (focus (first | exact hidx | exact hix | exact hsa | exact rfl)); cbv)
            | (refine Br.t hon ?_; cbv)
        · have hidx : (0 : Int) ≤ ((i ⟨⟩ : Nat) : Int) ∧ ((i ⟨⟩ : Nat) : Int) < (((wds 32 (t ⟨⟩)).length : Nat) : Int) := ⟨Int.natCast_nonneg _, Int.ofNat_lt.2 h1n⟩
          have hix : 0 + ((i ⟨⟩ : Nat) : Int).toNat * 1 < ((wds 32 (t ⟨⟩)).map tx).length := by rw [List.length_map, hp]; exact h1n
          have hm : (wds 32 (t ⟨⟩)).length - (i ⟨⟩ + 1) < (wds 32 (t ⟨⟩)).length - i ⟨⟩ := by omega
          have hon : (rnC (bl (((wds 32 (t ⟨⟩)).map tx).getD (0 + ((i ⟨⟩ : Nat) : Int).toNat * 1) ByteArray.empty)) != 0) = false := by rw [hba]; exact rnC_t hgo
          have hj : i ⟨⟩ + 1 ≤ (wds 32 (t ⟨⟩)).length ∧ goodTo (t ⟨⟩) (i ⟨⟩ + 1) = true := ⟨h1n, by rw [good_s h1n, hi2, hgo]; rfl⟩
          have hnl : numsTo (t ⟨⟩) (i ⟨⟩) ++ [rn (bl (((wds 32 (t ⟨⟩)).map tx).getD (0 + ((i ⟨⟩ : Nat) : Int).toNat * 1) ByteArray.empty))] = numsTo (t ⟨⟩) (i ⟨⟩ + 1) := by rw [hba]; exact nums_s h1n
          cbv
          refine Br.t hlb ?_
          cbv
          repeat' first
            | (refine Ob.mk ?_ ?_; (focus (first | exact hidx | exact hix | exact hsa | exact hb3 | exact hb2 | exact hb1 | exact rfl)); cbv)
            | (refine Br.f hon ?_; cbv)
            | (refine Next.ren [3, 1] (fun _ => i () + 1) ?_ ?_ ?_)
          all_goals first | exact hj | exact hm | ((repeat' (refine Ob.mk ?_ ?_; (focus (first | exact hnl | exact hw | exact rfl)))); trivial) | trace_state
  · cases hs
end Go.Proofs.YteifneielgnniaaDoor.Sh
end
