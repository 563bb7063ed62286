/- Webs that are handed over, compared and valid; digits. No condition. -/
import Derived.Test.YtkgkdpjjlkpbfaaDoorVa
set_option linter.unusedVariables false
set_option linter.unusedSimpArgs false
set_option linter.unusedSectionVars false
section
namespace Go.Proofs.YtkgkdpjjlkpbfaaDoor.Sh
open Go Go.Proofs
theorem e30a : Extern.findNext Tryd.f30 = none := by rfl
theorem e30b : Extern.find Tryd.f30 = some Extern.MathFloatBits.float32bits := by rfl
theorem ext30 (b : Nat) (w : World) : (callFunc 30 #[.float .f32 b]).run Tryd.prog w = .ok (.value (.int .u32 b)) w := by
  rw [run_callFunc_extern Tryd.func30 (by rfl) (by rfl) e30a e30b]; rfl
def s30 : Spec := fun args H => match args with
  | [.c (.f .f32 e)] => some (.c (.i .u32 (.x fun _ => (e () : Int))), H, [fun _ => isNan (e ()) = false])
  | _ => none
theorem ok30 : Ok Tryd.prog 30 s30 := by
  intro args H v H' o hs ho μ W w vs hW hH hr
  unfold s30 at hs
  split at hs
  · rename_i e
    cases hs
    match vs, hr with
    | [x], hr =>
      obtain ⟨⟨b, rfl, hb⟩, _⟩ := hr
      refine .inr ⟨_, _, ext30 b w, μ, agree.refl _ _, Nat.le_refl _, hH, ?_, Fr.refl _ _⟩
      have hn := ho.one
      rw [isNan_eq] at hn
      rcases hb with rfl | ⟨h1, h2⟩
      · rfl
      · have h2 : (Ieee.single.read (e ())).isNaN = true := h2
        rw [h2] at hn; cases hn
  · cases hs
def bitsX (a : Nat) : Nat := if isNan a = true then 2143289344 else a
theorem bits_t {a : Nat} (h : isNan a = true) : bitsX a = 2143289344 := if_pos h
theorem bits_f {a : Nat} (h : isNan a = false) : bitsX a = a := if_neg (by rw [h]; decide)
theorem bool_ft (b : Bool) : b = false ∨ b = true := by cases b <;> simp
theorem ntf {b : Bool} (h : b = true) : (!b) = false := by rw [h]; rfl
theorem nft {b : Bool} (h : b = false) : (!b) = true := by rw [h]; rfl
theorem fn42 : FnOk Tryd.prog 42 Tryd.f42 (bodyOf Tryd.f42) := ⟨Tryd.func42, rfl, by rfl⟩
def s42 : Spec := hspec fun args H => match args, H with
  | [.c (.f .f32 a)], [] => some (.c (.i .u32 (.x fun _ => (bitsX (a ()) : Int))), [], [])
  | _, _ => none
def E42 : Env := fun g => envGetL [(30, ⟨true, s30, none⟩)] g
theorem E42ok : EnvOk Tryd.prog E42 := envOk_cons ok30 (envOk_nil _)
set_option maxRecDepth 100000 in
set_option maxHeartbeats 1000000 in
theorem ok42 : Ok Tryd.prog 42 (s42) := ok_of_wpaH (E := E42) mixed tts E42ok fn42 fun args H v H' o hs ho => by
  split at hs
  · rename_i a
    cases hs
    refine ⟨_, HLe.refl _, ?_⟩
    cbv
    rcases bool_ft (isNan (a ⟨⟩)) with h | h
    · have e1 : ((a ⟨⟩ : Nat) : Int) = (bitsX (a ⟨⟩) : Int) := by rw [bits_f h]
      refine Br.f h ?_
      cbv
      repeat' (refine Ob.mk ?_ ?_; (focus (first | exact h | exact e1 | exact rfl)); cbv)
    · have e1 : (2143289344 : Int) = (bitsX (a ⟨⟩) : Int) := by rw [bits_t h]; rfl
      refine Br.t h ?_
      cbv
      repeat' (refine Ob.mk ?_ ?_; (focus (first | exact e1 | exact rfl)); cbv)
  · cases hs
end Go.Proofs.YtkgkdpjjlkpbfaaDoor.Sh
end
section
namespace Go.Proofs.YtkgkdpjjlkpbfaaDoor.Sh
open Go Go.Proofs
theorem wrapU32 {x : Int} (h0 : 0 ≤ x) (h1 : x < 4294967296) : IntKind.wrap .u32 x = x := by
  unfold IntKind.wrap IntKind.signed IntKind.bits
  simp
  omega
def hxI (d : Nat) : Int := ([48, 49, 50, 51, 52, 53, 54, 55, 56, 57, 97, 98, 99, 100, 101, 102] : List Int).getD d 0
def sh (x j : Nat) : Nat := x / 16 ^ j
theorem sh_0 (x : Nat) : sh x 0 = x := by unfold sh; simp
theorem sh_s (x j : Nat) : sh x j / 16 = sh x (j + 1) := by unfold sh; rw [Nat.div_div_eq_div_mul, Nat.pow_succ]
theorem sh_le (x j : Nat) : sh x j ≤ x := Nat.div_le_self _ _
theorem tmod16 (n : Nat) : ((n : Int).tmod 16) = ((n % 16 : Nat) : Int) := rfl
theorem dig_at : ∀ d, d < 16 → (((({ data := #[48, 49, 50, 51, 52, 53, 54, 55, 56, 57, 97, 98, 99, 100, 101, 102] } : ByteArray).data.toList.getD d 0).toNat : Nat) : Int) = hxI d := by decide
theorem dig_mod (n : Nat) : (((({ data := #[48, 49, 50, 51, 52, 53, 54, 55, 56, 57, 97, 98, 99, 100, 101, 102] } : ByteArray).data.toList.getD ((n : Int).tmod 16).toNat 0).toNat : Nat) : Int) = hxI (n % 16) := by
  rw [tmod16]
  exact dig_at _ (Nat.mod_lt _ (by decide))
/-- so many digits are laid, from the right -/
def hexTo (x : Nat) : Nat → List Int
  | 0 => [0, 0, 0, 0, 0, 0, 0, 0]
  | j + 1 => (hexTo x j).set (7 - j) (hxI (sh x j % 16))
theorem hexTo_len (x : Nat) : ∀ j, (hexTo x j).length = 8
  | 0 => rfl
  | j + 1 => by unfold hexTo; rw [List.length_set, hexTo_len x j]
def hexT (x : Nat) : ByteArray := bytesT (hexTo x 8)
theorem bitsX_lt {a : Nat} (h : a < 4294967296) : bitsX a < 4294967296 := by
  unfold bitsX; split <;> omega
theorem fn35 : FnOk Tryd.prog 35 Tryd.f35 (bodyOf Tryd.f35) := ⟨Tryd.func35, rfl, by rfl⟩
def s35 : Spec := hspec fun args H => match args, H with
  | [.c (.f .f32 a)], [] => some (.c (.s fun _ => hexT (bitsX (a ()))), [], [fun _ => a () < 4294967296])
  | _, _ => none
def E35 : Env := fun g => envGetL [(42, ⟨true, s42, none⟩)] g
theorem E35ok : EnvOk Tryd.prog E35 := envOk_cons ok42 (envOk_nil _)
set_option maxRecDepth 100000 in
set_option maxHeartbeats 2000000 in
theorem ok35 : Ok Tryd.prog 35 (s35) := ok_of_wpaH (E := E35) mixed tts E35ok fn35 fun args H v H' o hs ho => by
  split at hs
  · rename_i a
    cases hs
    have ha : a ⟨⟩ < 4294967296 := ho.one
    have hb := bitsX_lt ha
    have e0 : ((bitsX (a ⟨⟩) : Nat) : Int) = (sh (bitsX (a ⟨⟩)) 0 : Int) := by rw [sh_0]
    have h0 : ∀ j, 0 ≤ ((sh (bitsX (a ⟨⟩)) j : Nat) : Int).tmod 16 := fun j => by rw [tmod16]; exact Int.natCast_nonneg _
    have h1 : ∀ j, ((sh (bitsX (a ⟨⟩)) j : Nat) : Int).tmod 16 < ((16 : Nat) : Int) := fun j => by rw [tmod16]; exact Int.ofNat_lt.2 (Nat.mod_lt _ (by decide))
    have hq : ∀ j, IntKind.wrap .u32 (((sh (bitsX (a ⟨⟩)) j : Nat) : Int).tdiv 16) = (sh (bitsX (a ⟨⟩)) (j + 1) : Int) := fun j => by
      have hle := sh_le (bitsX (a ⟨⟩)) j
      rw [← sh_s, show ((sh (bitsX (a ⟨⟩)) j : Nat) : Int).tdiv 16 = ((sh (bitsX (a ⟨⟩)) j / 16 : Nat) : Int) from rfl]
      exact wrapU32 (Int.natCast_nonneg _) (by omega)
    have hst : ∀ j, (hexTo (bitsX (a ⟨⟩)) j).set (7 - j) (((({ data := #[48, 49, 50, 51, 52, 53, 54, 55, 56, 57, 97, 98, 99, 100, 101, 102] } : ByteArray).data.toList.getD (((sh (bitsX (a ⟨⟩)) j : Nat) : Int).tmod 16).toNat 0).toNat : Nat) : Int) = hexTo (bitsX (a ⟨⟩)) (j + 1) := fun j => by
      rw [dig_mod]; rfl
    refine ⟨_, HLe.refl _, ?_⟩
    cbv
    repeat' (refine Ob.mk ?_ ?_; (focus (first | exact rfl | exact ⟨by decide, by decide, by decide, by decide⟩)); cbv)
    refine Loop.mk 70 ?_
    cbv
    refine Gen.mk (fr 23 [(3, .c (.i .u32 (.x fun _ => (sh (bitsX (a ())) 0 : Int)))), (4, .c (.sl 0 (.l 0) (.l 8))), (5, .c (.i .i64 (.l 7)))]) [some ⟨true, 1, .it .u8 fun _ => hexTo (bitsX (a ())) 0⟩] ?_
    cbv
    repeat' (refine Ob.mk ?_ ?_; (focus (first | exact hst _ | exact hq _ | exact e0 | exact ⟨h0 _, h1 _⟩ | (dsimp only [IE.val, NE.val]; rw [hexTo_len]; decide) | exact rfl | decide | exact ⟨by decide, by decide, by decide, by decide⟩)); cbv)
    refine Gen.mk (fr 23 [(3, .c (.i .u32 (.x fun _ => (sh (bitsX (a ())) 1 : Int)))), (4, .c (.sl 0 (.l 0) (.l 8))), (5, .c (.i .i64 (.l 6)))]) [some ⟨true, 1, .it .u8 fun _ => hexTo (bitsX (a ())) 1⟩] ?_
    cbv
    repeat' (refine Ob.mk ?_ ?_; (focus (first | exact hst _ | exact hq _ | exact e0 | exact ⟨h0 _, h1 _⟩ | (dsimp only [IE.val, NE.val]; rw [hexTo_len]; decide) | exact rfl | decide | exact ⟨by decide, by decide, by decide, by decide⟩)); cbv)
    refine Gen.mk (fr 23 [(3, .c (.i .u32 (.x fun _ => (sh (bitsX (a ())) 2 : Int)))), (4, .c (.sl 0 (.l 0) (.l 8))), (5, .c (.i .i64 (.l 5)))]) [some ⟨true, 1, .it .u8 fun _ => hexTo (bitsX (a ())) 2⟩] ?_
    cbv
    repeat' (refine Ob.mk ?_ ?_; (focus (first | exact hst _ | exact hq _ | exact e0 | exact ⟨h0 _, h1 _⟩ | (dsimp only [IE.val, NE.val]; rw [hexTo_len]; decide) | exact rfl | decide | exact ⟨by decide, by decide, by decide, by decide⟩)); cbv)
    refine Gen.mk (fr 23 [(3, .c (.i .u32 (.x fun _ => (sh (bitsX (a ())) 3 : Int)))), (4, .c (.sl 0 (.l 0) (.l 8))), (5, .c (.i .i64 (.l 4)))]) [some ⟨true, 1, .it .u8 fun _ => hexTo (bitsX (a ())) 3⟩] ?_
    cbv
    repeat' (refine Ob.mk ?_ ?_; (focus (first | exact hst _ | exact hq _ | exact e0 | exact ⟨h0 _, h1 _⟩ | (dsimp only [IE.val, NE.val]; rw [hexTo_len]; decide) | exact rfl | decide | exact ⟨by decide, by decide, by decide, by decide⟩)); cbv)
    refine Gen.mk (fr 23 [(3, .c (.i .u32 (.x fun _ => (sh (bitsX (a ())) 4 : Int)))), (4, .c (.sl 0 (.l 0) (.l 8))), (5, .c (.i .i64 (.l 3)))]) [some ⟨true, 1, .it .u8 fun _ => hexTo (bitsX (a ())) 4⟩] ?_
    cbv
    repeat' (refine Ob.mk ?_ ?_; (focus (first | exact hst _ | exact hq _ | exact e0 | exact ⟨h0 _, h1 _⟩ | (dsimp only [IE.val, NE.val]; rw [hexTo_len]; decide) | exact rfl | decide | exact ⟨by decide, by decide, by decide, by decide⟩)); cbv)
    refine Gen.mk (fr 23 [(3, .c (.i .u32 (.x fun _ => (sh (bitsX (a ())) 5 : Int)))), (4, .c (.sl 0 (.l 0) (.l 8))), (5, .c (.i .i64 (.l 2)))]) [some ⟨true, 1, .it .u8 fun _ => hexTo (bitsX (a ())) 5⟩] ?_
    cbv
    repeat' (refine Ob.mk ?_ ?_; (focus (first | exact hst _ | exact hq _ | exact e0 | exact ⟨h0 _, h1 _⟩ | (dsimp only [IE.val, NE.val]; rw [hexTo_len]; decide) | exact rfl | decide | exact ⟨by decide, by decide, by decide, by decide⟩)); cbv)
    refine Gen.mk (fr 23 [(3, .c (.i .u32 (.x fun _ => (sh (bitsX (a ())) 6 : Int)))), (4, .c (.sl 0 (.l 0) (.l 8))), (5, .c (.i .i64 (.l 1)))]) [some ⟨true, 1, .it .u8 fun _ => hexTo (bitsX (a ())) 6⟩] ?_
    cbv
    repeat' (refine Ob.mk ?_ ?_; (focus (first | exact hst _ | exact hq _ | exact e0 | exact ⟨h0 _, h1 _⟩ | (dsimp only [IE.val, NE.val]; rw [hexTo_len]; decide) | exact rfl | decide | exact ⟨by decide, by decide, by decide, by decide⟩)); cbv)
    refine Gen.mk (fr 23 [(3, .c (.i .u32 (.x fun _ => (sh (bitsX (a ())) 7 : Int)))), (4, .c (.sl 0 (.l 0) (.l 8))), (5, .c (.i .i64 (.l 0)))]) [some ⟨true, 1, .it .u8 fun _ => hexTo (bitsX (a ())) 7⟩] ?_
    cbv
    repeat' (refine Ob.mk ?_ ?_; (focus (first | exact hst _ | exact hq _ | exact e0 | exact ⟨h0 _, h1 _⟩ | (dsimp only [IE.val, NE.val]; rw [hexTo_len]; decide) | exact rfl | decide | exact ⟨by decide, by decide, by decide, by decide⟩)); cbv)
    refine Gen.mk (fr 23 [(3, .c (.i .u32 (.x fun _ => (sh (bitsX (a ())) 8 : Int)))), (4, .c (.sl 0 (.l 0) (.l 8))), (5, .c (.i .i64 (.l (-1))))]) [some ⟨true, 1, .it .u8 fun _ => hexTo (bitsX (a ())) 8⟩] ?_
    cbv
    repeat' (refine Ob.mk ?_ ?_; (focus (first | exact hst _ | exact hq _ | exact e0 | exact ⟨h0 _, h1 _⟩ | (dsimp only [IE.val, NE.val]; rw [hexTo_len]; decide) | exact rfl | decide | exact ⟨by decide, by decide, by decide, by decide⟩)); cbv)
  · cases hs
theorem fn28 : FnOk Tryd.prog 28 Tryd.f28 (bodyOf Tryd.f28) := ⟨Tryd.func28, rfl, by rfl⟩
def s28 : Spec := hspec fun args H => match args, H with
  | [.c (.f .f32 a)], [] => some (.c (.s fun _ => hexT (bitsX (a ()))), [], [fun _ => a () < 4294967296])
  | _, _ => none
def E28 : Env := fun g => envGetL [(35, ⟨true, s35, none⟩)] g
theorem E28ok : EnvOk Tryd.prog E28 := envOk_cons ok35 (envOk_nil _)
set_option maxRecDepth 100000 in
set_option maxHeartbeats 1000000 in
theorem ok28 : Ok Tryd.prog 28 (s28) := ok_of_wpaH (E := E28) mixed tts E28ok fn28 fun args H v H' o hs ho => by
  split at hs
  · rename_i a
    cases hs
    have ha := ho.one
    refine ⟨_, HLe.refl _, ?_⟩
    cbv
    repeat' (refine Ob.mk ?_ ?_; (focus (first | exact ha | exact rfl)); cbv)
  · cases hs
end Go.Proofs.YtkgkdpjjlkpbfaaDoor.Sh
end
section
namespace Go.Proofs.YtkgkdpjjlkpbfaaDoor.Sh
open Go Go.Proofs
theorem push_size : ∀ (l : List Int) (r : ByteArray), (l.foldl (fun r n => r.push (UInt8.ofNat n.toNat)) r).size = r.size + l.length
  | [], r => rfl
  | n :: l, r => by
    rw [List.foldl_cons, push_size l, ByteArray.size_push, List.length_cons]; omega
theorem bytesT_size (l : List Int) : (bytesT l).size = l.length := by
  unfold bytesT; rw [push_size]; simp
theorem hexT_size (x : Nat) : (hexT x).size = 8 := by unfold hexT; rw [bytesT_size, hexTo_len]
abbrev spT : ByteArray := { data := #[32] }
abbrev nlT : ByteArray := { data := #[10] }
abbrev numT (a : Nat) : ByteArray := hexT (bitsX a)
theorem numT_size (a : Nat) : (numT a).size = 8 := hexT_size _
def lineT (a b c : Nat) : ByteArray := numT a ++ spT ++ numT b ++ spT ++ numT c ++ nlT
theorem spT_size : spT.size = 1 := rfl
theorem nlT_size : nlT.size = 1 := rfl
theorem lineT_size (a b c : Nat) : (lineT a b c).size = 27 := by
  unfold lineT
  simp only [ByteArray.size_append, numT_size, spT_size, nlT_size]
/-- the first line and so many lines of spans -/
def textW (st sp fd : Nat) (l : List Nat) : Nat → ByteArray
  | 0 => lineT st sp fd
  | i + 1 => textW st sp fd l i ++ lineT (l.getD (i * 3) 0) (l.getD (i * 3 + 1) 0) (l.getD (i * 3 + 2) 0)
theorem textW_size (st sp fd : Nat) (l : List Nat) : ∀ i, (textW st sp fd l i).size = 27 * (i + 1)
  | 0 => lineT_size _ _ _
  | i + 1 => by unfold textW; rw [ByteArray.size_append, textW_size st sp fd l i, lineT_size]; omega
def wordsOk (l : List Nat) : Prop := ∀ x ∈ l, x < 4294967296
theorem line_eq (a b c : Nat) : numT a ++ spT ++ numT b ++ spT ++ numT c ++ nlT = lineT a b c := rfl
theorem textW_0 (st sp fd : Nat) (l : List Nat) : lineT st sp fd = textW st sp fd l 0 := rfl
theorem textW_s (st sp fd : Nat) (l : List Nat) (i : Nat) : textW st sp fd l i ++ lineT (l.getD (i * 3) 0) (l.getD (i * 3 + 1) 0) (l.getD (i * 3 + 2) 0) = textW st sp fd l (i + 1) := rfl
theorem word_at {l : List Nat} (h : wordsOk l) (j : Nat) : l.getD j 0 < 4294967296 := by
  rw [List.getD_eq_getElem?_getD]
  cases e : l[j]? with
  | none => decide
  | some x => exact h x (List.mem_of_getElem? e)
attribute [local irreducible] hexT lineT textW bitsX
theorem fn20 : FnOk Tryd.prog 20 Tryd.f20 (bodyOf Tryd.f20) := ⟨Tryd.func20, rfl, by rfl⟩
def s20 : Spec := hspec fun args H => match args, H with
  | [.c (.f .f32 a), .c (.f .f32 b), .c (.f .f32 c)], [] => some (.c (.s fun _ => lineT (a ()) (b ()) (c ())), [], [fun _ => a () < 4294967296 ∧ b () < 4294967296 ∧ c () < 4294967296])
  | _, _ => none
def E20 : Env := fun g => envGetL [(28, ⟨true, s28, none⟩)] g
theorem E20ok : EnvOk Tryd.prog E20 := envOk_cons ok28 (envOk_nil _)
set_option maxRecDepth 100000 in
set_option maxHeartbeats 1000000 in
theorem ok20 : Ok Tryd.prog 20 (s20) := ok_of_wpaH (E := E20) mixed tts E20ok fn20 fun args H v H' o hs ho => by
  split at hs
  · rename_i a b c
    cases hs
    obtain ⟨ha, hb, hc⟩ := ho.one
    have z1 : (numT (a ⟨⟩)).size + spT.size ≤ 9223372036854775807 := by rw [numT_size]; decide
    have z2 : (numT (a ⟨⟩) ++ spT).size + (numT (b ⟨⟩)).size ≤ 9223372036854775807 := by simp only [ByteArray.size_append, numT_size]; decide
    have z3 : (numT (a ⟨⟩) ++ spT ++ numT (b ⟨⟩)).size + spT.size ≤ 9223372036854775807 := by simp only [ByteArray.size_append, numT_size]; decide
    have z4 : (numT (a ⟨⟩) ++ spT ++ numT (b ⟨⟩) ++ spT).size + (numT (c ⟨⟩)).size ≤ 9223372036854775807 := by simp only [ByteArray.size_append, numT_size]; decide
    have z5 : (numT (a ⟨⟩) ++ spT ++ numT (b ⟨⟩) ++ spT ++ numT (c ⟨⟩)).size + nlT.size ≤ 9223372036854775807 := by simp only [ByteArray.size_append, numT_size]; decide
    have e1 := line_eq (a ⟨⟩) (b ⟨⟩) (c ⟨⟩)
    refine ⟨_, HLe.refl _, ?_⟩
    cbv
    repeat' (refine Ob.mk ?_ ?_; (focus (first | with_reducible exact ha | with_reducible exact hb | with_reducible exact hc | with_reducible exact z1 | with_reducible exact z2 | with_reducible exact z3 | with_reducible exact z4 | with_reducible exact z5 | with_reducible exact e1 | with_reducible rfl | exact ha | exact hb | exact hc | exact e1)); cbv)
  · cases hs
end Go.Proofs.YtkgkdpjjlkpbfaaDoor.Sh
end
section
namespace Go.Proofs.YtkgkdpjjlkpbfaaDoor.Sh
open Go Go.Proofs
attribute [local irreducible] hexT lineT textW bitsX webOk
theorem fn11 : FnOk Tryd.prog 11 Tryd.f11 (bodyOf Tryd.f11) := ⟨Tryd.func11, rfl, by rfl⟩
def s11 : Spec := hspec fun args H => match args, H with
  | [.c (.p 0 (.l 0))], [some ⟨false, 0, .lit [.f .f32 st, .f .f32 sp, .f .f32 fd, .sl 1 (.x o) (.x n)]⟩, some ⟨false, 0, x⟩] => match x.toFl with
    | some l => some (.c (.s fun _ => textW (st ()) (sp ()) (fd ()) (l ()) (n ())), [none, none], [fun _ => o () = 0 ∧ (l ()).length = 3 * n () ∧ n () ≤ 1048576 ∧ (st () < 4294967296 ∧ sp () < 4294967296 ∧ fd () < 4294967296) ∧ wordsOk (l ())])
    | _ => none
  | _, _ => none
def E11 : Env := fun g => envGetL [(20, ⟨true, s20, none⟩)] g
theorem E11ok : EnvOk Tryd.prog E11 := envOk_cons ok20 (envOk_nil _)
set_option maxRecDepth 100000 in
set_option maxHeartbeats 4000000 in
theorem ok11 : Ok Tryd.prog 11 (s11) := ok_of_wpaH (E := E11) mixed tts E11ok fn11 fun args H v H' o hs ho => by
  split at hs
  · rename_i st sp fd o n x
    split at hs
    · rename_i l hl
      cases hs
      obtain ⟨ho0, hlen, hbig, hw, hwl⟩ := ho.one
      have ho0 : o ⟨⟩ = 0 := ho0
      have hlen : (l ⟨⟩).length = 3 * n ⟨⟩ := hlen
      have hbig : n ⟨⟩ ≤ 1048576 := hbig
      have hw : st ⟨⟩ < 4294967296 ∧ sp ⟨⟩ < 4294967296 ∧ fd ⟨⟩ < 4294967296 := hw
      have hwl : wordsOk (l ⟨⟩) := hwl
      refine ⟨_, HLe.cons (BLe.refl _) (HLe.cons (BLe.fl hl) HLe.nil), ?_⟩
      cbv
      refine Lex.mk (by decide +kernel) ?_
      cbv
      repeat' (refine Ob.mk ?_ ?_; (focus (first | exact hw | exact rfl)); cbv)
      refine loop_rule (α := Unit → Nat) (c := ⟨tt, E11, 2⟩)
          (fun i => fr 55 [(0, .c (.p 0 (.l 0))), (3, .c (.s fun _ => textW (st ()) (sp ()) (fd ()) (l ()) (i ()))), (4, .c (.i .i64 (.x fun _ => (i () : Int))))]) (fun i => [some ⟨false, 0, .lit [.f .f32 st, .f .f32 sp, .f .f32 fd, .sl 1 (.x o) (.x n)]⟩, some ⟨false, 0, .fl l⟩])
          (fun i => i () ≤ n ()) (fun i => n () - i ()) (fun _ => n () + 1) ?_ ?_
      · refine .mk (fun _ => 0) (Nat.zero_le _) (by dsimp only; omega) ?_
        cbv
        repeat' (refine Ob.mk ?_ ?_; (focus (first | with_reducible rfl | exact textW_0 _ _ _ _ | exact True.intro | exact rfl)); cbv)
      · intro i hi
        have hi : i ⟨⟩ ≤ n ⟨⟩ := hi
        cbv
        by_cases hin : i ⟨⟩ < n ⟨⟩
        · have hx : 0 ≤ ((i ⟨⟩ : Nat) : Int) ∧ ((i ⟨⟩ : Nat) : Int) < ((n ⟨⟩ : Nat) : Int) := by omega
          have k0 : o ⟨⟩ + i ⟨⟩ * 3 < (l ⟨⟩).length := by omega
          have k1 : o ⟨⟩ + i ⟨⟩ * 3 + 1 < (l ⟨⟩).length := by omega
          have k2 : o ⟨⟩ + i ⟨⟩ * 3 + 2 < (l ⟨⟩).length := by omega
          have hlt : (l ⟨⟩).getD (o ⟨⟩ + i ⟨⟩ * 3) 0 < 4294967296 ∧ (l ⟨⟩).getD (o ⟨⟩ + i ⟨⟩ * 3 + 1) 0 < 4294967296 ∧ (l ⟨⟩).getD (o ⟨⟩ + i ⟨⟩ * 3 + 2) 0 < 4294967296 := ⟨word_at hwl _, word_at hwl _, word_at hwl _⟩
          have hz : (textW (st ⟨⟩) (sp ⟨⟩) (fd ⟨⟩) (l ⟨⟩) (i ⟨⟩)).size + (lineT ((l ⟨⟩).getD (o ⟨⟩ + i ⟨⟩ * 3) 0) ((l ⟨⟩).getD (o ⟨⟩ + i ⟨⟩ * 3 + 1) 0) ((l ⟨⟩).getD (o ⟨⟩ + i ⟨⟩ * 3 + 2) 0)).size ≤ 9223372036854775807 := by rw [textW_size, lineT_size]; omega
          have hnx : textW (st ⟨⟩) (sp ⟨⟩) (fd ⟨⟩) (l ⟨⟩) (i ⟨⟩) ++ lineT ((l ⟨⟩).getD (o ⟨⟩ + i ⟨⟩ * 3) 0) ((l ⟨⟩).getD (o ⟨⟩ + i ⟨⟩ * 3 + 1) 0) ((l ⟨⟩).getD (o ⟨⟩ + i ⟨⟩ * 3 + 2) 0) = textW (st ⟨⟩) (sp ⟨⟩) (fd ⟨⟩) (l ⟨⟩) (i ⟨⟩ + 1) := by
            rw [ho0, Nat.zero_add]; exact textW_s _ _ _ _ _
          have hwi : IntKind.wrap .i64 (((i ⟨⟩ : Nat) : Int) + 1) = ((i ⟨⟩ + 1 : Nat) : Int) := wrap64_nat (by omega)
          have hme : n ⟨⟩ - (i ⟨⟩ + 1) < n ⟨⟩ - i ⟨⟩ := by omega
          have hle : i ⟨⟩ + 1 ≤ n ⟨⟩ := hin
          refine Br.t (ltB_iff.2 (Int.ofNat_lt.2 hin)) ?_
          cbv
          repeat' first
            | (refine Ob.mk ?_ ?_; (focus (first | with_reducible rfl | ((try dsimp only [IE.val, NE.val, IE.nat]); (try simp only [Int.toNat_natCast, Nat.add_zero]); first | with_reducible exact hx | with_reducible exact k0 | with_reducible exact k1 | with_reducible exact k2 | with_reducible exact hlt | with_reducible exact hz | with_reducible exact hnx | with_reducible exact hwi | with_reducible rfl | exact hx | exact hlt | exact hz | exact hnx | exact hwi | exact rfl))); cbv)
            | (refine Lex.mk (by decide +kernel) ?_; cbv)
            | (refine Next.mk (fun _ => i () + 1) hle hme ?_; cbv)
        · have hend : i ⟨⟩ = n ⟨⟩ := by omega
          have htx : textW (st ⟨⟩) (sp ⟨⟩) (fd ⟨⟩) (l ⟨⟩) (i ⟨⟩) = textW (st ⟨⟩) (sp ⟨⟩) (fd ⟨⟩) (l ⟨⟩) (n ⟨⟩) := by rw [hend]
          refine Br.f (ltB_no.2 (fun h => hin (Int.ofNat_lt.1 h))) ?_
          cbv
          repeat' (refine Ob.mk ?_ ?_; (focus (first | exact htx | exact rfl)); cbv)
    · cases hs
  · cases hs
theorem fn5 : FnOk Tryd.prog 5 Tryd.f5 (bodyOf Tryd.f5) := ⟨Tryd.func5, rfl, by rfl⟩
def s5 : Spec := hspec fun args H => match args, H with
  | [.a [.f .f32 st, .f .f32 sp, .f .f32 fd, .sl 0 (.x o) (.x n)]], [some ⟨false, 0, x⟩] => match x.toFl with
    | some l => some (.c (.s fun _ => (if webOk (st ()) (sp ()) (fd ()) (l ()) (n ()) = true then textW (st ()) (sp ()) (fd ()) (l ()) (n ()) else ByteArray.empty)), [none], [fun _ => o () = 0 ∧ (l ()).length = 3 * n () ∧ n () ≤ 1048576 ∧ (st () < 4294967296 ∧ sp () < 4294967296 ∧ fd () < 4294967296) ∧ wordsOk (l ())])
    | _ => none
  | _, _ => none
def E5 : Env := fun g => envGetL [(10, ⟨true, s10, none⟩), (11, ⟨true, s11, none⟩)] g
theorem E5ok : EnvOk Tryd.prog E5 := envOk_cons ok10 (envOk_cons ok11 (envOk_nil _))
set_option maxRecDepth 100000 in
set_option maxHeartbeats 2000000 in
theorem ok5 : Ok Tryd.prog 5 (s5) := ok_of_wpaH (E := E5) mixed tts E5ok fn5 fun args H v H' o hs ho => by
  split at hs
  · rename_i st sp fd o n x
    split at hs
    · rename_i l hl
      cases hs
      have hwb := ho.one
      obtain ⟨ho0, hlen, hbig, hw, hwl⟩ := id hwb
      refine ⟨_, HLe.cons (BLe.fl hl) HLe.nil, ?_⟩
      cbv
      repeat' (refine Ob.mk ?_ ?_; (focus (first | exact ⟨ho0, hlen, hbig⟩ | exact rfl)); cbv)
      rcases bool_ft (webOk (st ⟨⟩) (sp ⟨⟩) (fd ⟨⟩) (l ⟨⟩) (n ⟨⟩)) with h | h
      · have e1 : ByteArray.empty = (if webOk (st ⟨⟩) (sp ⟨⟩) (fd ⟨⟩) (l ⟨⟩) (n ⟨⟩) = true then textW (st ⟨⟩) (sp ⟨⟩) (fd ⟨⟩) (l ⟨⟩) (n ⟨⟩) else ByteArray.empty) := by rw [h]; rfl
        refine Br.t (nft h) ?_
        cbv
        repeat' (refine Ob.mk ?_ ?_; (focus (first | exact e1 | exact rfl)); cbv)
      · have e1 : textW (st ⟨⟩) (sp ⟨⟩) (fd ⟨⟩) (l ⟨⟩) (n ⟨⟩) = (if webOk (st ⟨⟩) (sp ⟨⟩) (fd ⟨⟩) (l ⟨⟩) (n ⟨⟩) = true then textW (st ⟨⟩) (sp ⟨⟩) (fd ⟨⟩) (l ⟨⟩) (n ⟨⟩) else ByteArray.empty) := by rw [h]; rfl
        refine Br.f (ntf h) ?_
        cbv
        repeat' (refine Ob.mk ?_ ?_; (focus (first | exact hwb | exact e1 | exact rfl)); cbv)
    · cases hs
  · cases hs
end Go.Proofs.YtkgkdpjjlkpbfaaDoor.Sh
end
section
namespace Go.Proofs.YtkgkdpjjlkpbfaaDoor.Sh
open Go Go.Proofs
/-! ## the digits of a number -/
def nd (x : Nat) : Nat := if h : x < 16 then 1 else nd (x / 16) + 1
termination_by x
decreasing_by omega
theorem nd_lt {x : Nat} (h : x < 16) : nd x = 1 := by unfold nd; rw [dif_pos h]
theorem nd_ge {x : Nat} (h : ¬ x < 16) : nd x = nd (x / 16) + 1 := by
  conv => lhs; unfold nd
  rw [dif_neg h]
def digL (x : Nat) : Nat → List Int
  | 0 => []
  | k + 1 => hxI (sh x k % 16) :: digL x k
theorem digL_len (x : Nat) : ∀ k, (digL x k).length = k
  | 0 => rfl
  | k + 1 => by unfold digL; rw [List.length_cons, digL_len x k]
def arrX (x k : Nat) : List Int := List.replicate (65 - k) 0 ++ digL x k
theorem arrX_len (x : Nat) {k : Nat} (h : k ≤ 65) : (arrX x k).length = 65 := by
  unfold arrX; rw [List.length_append, List.length_replicate, digL_len]; omega
theorem arrX_set (x : Nat) {k : Nat} (h : k ≤ 64) : (arrX x k).set (64 - k) (hxI (sh x k % 16)) = arrX x (k + 1) := by
  unfold arrX
  rw [show 65 - k = (64 - k) + 1 by omega, List.replicate_succ', List.append_assoc, List.set_append_right _ _ (by simp), List.length_replicate, Nat.sub_self, show 65 - (k + 1) = 64 - k by omega]
  rfl
theorem arrX_drop (x : Nat) {k : Nat} (h : k ≤ 65) : ((arrX x k).drop (65 - k)).take (65 - (65 - k)) = digL x k := by
  unfold arrX
  rw [List.drop_append_of_le_length (by simp), List.drop_eq_nil_of_le (by simp), List.nil_append, List.take_of_length_le (by rw [digL_len]; omega)]
/-- the least number of digits -/
def hexM (x : Nat) : ByteArray := bytesT (digL x (nd x))
theorem sh_big {x k : Nat} (hx : x < 4294967296) (h : ¬ sh x k < 16) (hk : k ≤ 7) : k + 1 ≤ 7 := by
  by_cases h7 : k = 7
  · subst h7
    exfalso; apply h
    unfold sh
    exact Nat.div_lt_of_lt_mul (by omega)
  · omega
theorem iand16 {n : Nat} (h : n < 18446744073709551616) : iand .u64 (n : Int) 15 = ((n % 16 : Nat) : Int) := by
  unfold iand
  have e : (BitVec.ofInt 64 (n : Int) &&& BitVec.ofInt 64 15).toNat = n % 16 := by
    rw [BitVec.toNat_and, BitVec.toNat_ofInt, BitVec.toNat_ofInt]
    have e1 : (((n : Int) % ((2 ^ 64 : Nat) : Int)).toNat) = n := by omega
    have e2 : (((15 : Int) % ((2 ^ 64 : Nat) : Int)).toNat) = 15 := by decide
    rw [e1, e2, show (15 : Nat) = 2 ^ 4 - 1 from rfl, Nat.and_two_pow_sub_one_eq_mod]
  show IntKind.wrap .u64 ((BitVec.ofInt 64 (n : Int) &&& BitVec.ofInt 64 15).toNat : Int) = _
  rw [e]
  unfold IntKind.wrap IntKind.signed IntKind.bits
  simp
  omega
theorem ishr4 (n : Nat) : ishr .u64 (n : Int) 4 = ((n / 16 : Nat) : Int) := by
  unfold ishr
  show Int.fdiv (n : Int) 16 = _
  rw [Int.fdiv_eq_ediv_of_nonneg _ (by decide)]
  rfl
theorem wrapU64 {x : Int} (h0 : 0 ≤ x) (h1 : x < 18446744073709551616) : IntKind.wrap .u64 x = x := by
  unfold IntKind.wrap IntKind.signed IntKind.bits
  simp
  omega
theorem dig36 : ∀ d, d < 16 → (((({ data := { toList := 48 :: 49 :: 50 :: 51 :: 52 :: 53 :: 54 :: 55 :: 56 :: 57 :: 97 :: 98 :: 99 :: 100 :: 101 :: 102 :: 103 :: 104 :: 105 :: 106 :: 107 :: 108 :: 109 :: 110 :: 111 :: 112 :: 113 :: 114 :: 115 :: 116 :: 117 :: 118 :: 119 :: 120 :: 121 :: 122 :: [] } } : ByteArray).data.toList.getD d 0).toNat : Nat) : Int) = hxI d := by decide
theorem fn58 : FnOk Tryd.prog 58 Tryd.f58 (bodyOf Tryd.f58) := ⟨Tryd.func58, rfl, by rfl⟩
theorem tz64 (w : World) (h : w.cell? ⟨4, 15, none⟩ = some (.int .u8 4)) : Calls Tryd.prog 58 #[.int .u64 16] w fun e w' => e = .returned (.int .i64 4) ∧ w' = w := by
  have h7 : IntKind.u64.wrap (-16) = 18446744073709551600 := by decide +kernel
  have h8 : bits BinOp.and IntKind.u64 16 18446744073709551600 = 16 := by decide +kernel
  have h9 : IntKind.u64.wrap (16 * 285870213051353865) = 4573923408821661840 := by decide +kernel
  have h9' : IntKind.u64.wrap 4573923408821661840 = 4573923408821661840 := by decide +kernel
  go_enter Tryd.func58, Tryd.ntmps58
  go_wp2
  go_ret
  exact ⟨rfl, rfl⟩
def s58 : Spec := fun args H => match args with
  | [.c (.i .u64 e)] => some (.c (.i .i64 (.l 4)), H, [fun _ => e.val = 16])
  | _ => none
theorem ok58 : Ok Tryd.prog 58 s58 := by
  intro args H v H' o hs ho μ W w vs hW hH hr
  unfold s58 at hs
  split at hs
  · rename_i e
    cases hs
    match vs, hr with
    | [x], hr =>
      obtain ⟨hx, _⟩ := hr
      have he := ho.one
      have hx : x = .int .u64 e.val := hx
      have he : e.val = 16 := he
      rw [he] at hx
      subst hx
      have ht := (hW.tab (4, 15, .int .u8 4) (by simp [tabCells])).2.2
      exact .inl ⟨callFunc_run fn58 _ _, (tz64 w ht).mono fun e' w' ⟨h1, h2⟩ => ⟨_, h1, μ, agree.refl _ _, Nat.le_refl _, h2 ▸ hH, rfl, h2 ▸ Fr.refl _ _⟩⟩
  · cases hs
theorem fn56 : FnOk Tryd.prog 56 Tryd.f56 (bodyOf Tryd.f56) := ⟨Tryd.func56, rfl, by rfl⟩
def s56 : Spec := hspec fun args H => match args, H with
  | [.c (.i .u64 (.x a))], [] => some (.c (.i .i64 (.l 4)), [], [fun _ => a () = 16])
  | _, _ => none
def E56 : Env := fun g => envGetL [(58, ⟨true, s58, none⟩)] g
theorem E56ok : EnvOk Tryd.prog E56 := envOk_cons ok58 (envOk_nil _)
set_option maxRecDepth 100000 in
set_option maxHeartbeats 1000000 in
theorem ok56 : Ok Tryd.prog 56 (s56) := ok_of_wpaH (E := E56) mixed tts E56ok fn56 fun args H v H' o hs ho => by
  split at hs
  · rename_i a
    cases hs
    have ha := ho.one
    refine ⟨_, HLe.refl _, ?_⟩
    cbv
    repeat' (refine Ob.mk ?_ ?_; (focus (first | exact ha | exact rfl)); cbv)
  · cases hs
theorem fn55 : FnOk Tryd.prog 55 Tryd.f55 (bodyOf Tryd.f55) := ⟨Tryd.func55, rfl, by rfl⟩
def s55 : Spec := hspec fun args H => match args, H with
  | [.c (.i .i64 (.x a))], [] => some (.c (.b (.x fun _ => true)), [], [fun _ => a () = 16])
  | _, _ => none
set_option maxRecDepth 100000 in
set_option maxHeartbeats 1000000 in
theorem ok55 : Ok Tryd.prog 55 (s55) := ok_of_wpaH (E := envGetL []) mixed tts (envOk_nil _) fn55 fun args H v H' o hs ho => by
  split at hs
  · rename_i a
    cases hs
    have ha : a ⟨⟩ = 16 := ho.one
    have e1 : (iand .i64 (a ⟨⟩) (IntKind.wrap .i64 (a ⟨⟩ - 1)) == 0) = true := by rw [ha]; decide
    refine ⟨_, HLe.refl _, ?_⟩
    cbv
    repeat' (refine Ob.mk ?_ ?_; (focus (first | exact e1 | exact rfl)); cbv)
  · cases hs
end Go.Proofs.YtkgkdpjjlkpbfaaDoor.Sh
end
section
namespace Go.Proofs.YtkgkdpjjlkpbfaaDoor.Sh
open Go Go.Proofs
theorem fn46 : FnOk Tryd.prog 46 Tryd.f46 (bodyOf Tryd.f46) := ⟨Tryd.func46, rfl, by rfl⟩
def s46 : Spec := hspec fun args H => match args, H with
  | [.c .sn, .c (.i .u64 (.x u)), .c (.i .i64 (.x b)), .c (.b (.x ng)), .c (.b (.x ap))], [] => some (.t [.c .sn, .c (.s fun _ => hexM (u ()).toNat)], [], [fun _ => b () = 16 ∧ ng () = false ∧ ap () = false ∧ 0 ≤ u () ∧ u () < 4294967296])
  | _, _ => none
def E46 : Env := fun g => envGetL [(55, ⟨true, s55, none⟩), (56, ⟨true, s56, none⟩)] g
theorem E46ok : EnvOk Tryd.prog E46 := envOk_cons ok55 (envOk_cons ok56 (envOk_nil _))
set_option maxRecDepth 100000 in
set_option maxHeartbeats 4000000 in
theorem ok46 : Ok Tryd.prog 46 (s46) := ok_of_wpaH (E := E46) mixed tts E46ok fn46 fun args H v H' o hs ho => by
  split at hs
  · rename_i u b ng ap
    cases hs
    obtain ⟨hb, hng, hap, hu0, hu1⟩ := ho.one
    have hb : b ⟨⟩ = 16 := hb
    have hng : ng ⟨⟩ = false := hng
    have hap : ap ⟨⟩ = false := hap
    have hu0 : 0 ≤ u ⟨⟩ := hu0
    have hu1 : u ⟨⟩ < 4294967296 := hu1
    obtain ⟨x, hx⟩ : ∃ x : Nat, x = (u ⟨⟩).toNat := ⟨_, rfl⟩
    have hux : u ⟨⟩ = (x : Int) := by omega
    have hxl : x < 4294967296 := by omega
    have c1 : ltB (b ⟨⟩) 2 = false := by rw [hb]; decide
    have c2 : (b ⟨⟩ == 10) = false := by rw [hb]; decide
    have c3 : ltB 36 (b ⟨⟩) = false := by rw [hb]; decide
    have w1 : IntKind.wrap .u64 (b ⟨⟩) = 16 := by rw [hb]; decide
    have w2 : IntKind.wrap .u64 (IntKind.wrap .u64 (b ⟨⟩) - 1) = 15 := by rw [hb]; decide
    have e0 : u ⟨⟩ = (sh x 0 : Int) := by rw [sh_0, hux]
    have r0 : List.replicate 65 (0 : Int) = arrX x 0 := by unfold arrX; rw [show digL x 0 = [] from rfl, List.append_nil]
    refine ⟨_, HLe.refl _, ?_⟩
    cbv
    refine Br.f c1 ?_
    cbv
    refine Br.f c2 ?_
    cbv
    refine Br.f c3 ?_
    cbv
    refine Br.f hng ?_
    cbv
    repeat' (refine Ob.mk ?_ ?_; (focus (first | exact hb | exact rfl)); cbv)
    refine Br.t rfl ?_
    cbv
    repeat' (refine Ob.mk ?_ ?_; (focus (first | exact w1 | exact rfl)); cbv)
    refine loop_rule (α := Unit → Nat) (c := ⟨tt, E46, 0⟩)
        (fun k => fr 102 [(0, .c .sn), (1, .c (.i .u64 (.x fun _ => (sh x (k ()) : Int)))), (3, .c (.b (.x ng))), (4, .c (.b (.x ap))), (10, .c .sn), (12, .c (.p 0 (.l 0))), (13, .c (.i .i64 (.x fun _ => ((65 - k () : Nat) : Int)))), (14, .c (.i .u64 (.l 4))), (15, .c (.i .u64 (.l 16))), (16, .c (.i .u64 (.l 15)))]) (fun k => [some ⟨true, 0, .it .u8 fun _ => arrX x (k ())⟩])
        (fun k => k () ≤ 7 ∧ nd x = k () + nd (sh x (k ()))) (fun k => sh x (k ())) (fun _ => x + 1) ?_ ?_
    · refine .mk (fun _ => 0) ⟨Nat.zero_le _, by show nd x = 0 + nd (sh x 0); rw [sh_0, Nat.zero_add]⟩ (by show sh x 0 < x + 1; rw [sh_0]; omega) ?_
      cbv
      repeat' (refine Ob.mk ?_ ?_; (focus (first | with_reducible rfl | exact e0 | exact w1 | exact w2 | exact r0 | exact rfl)); cbv)
    · intro k hk
      obtain ⟨hk7, hnd⟩ := hk
      have hk7 : k ⟨⟩ ≤ 7 := hk7
      have hnd : nd x = k ⟨⟩ + nd (sh x (k ⟨⟩)) := hnd
      have hle := sh_le x (k ⟨⟩)
      have hi : IntKind.wrap .i64 (((65 - k ⟨⟩ : Nat) : Int) - 1) = ((64 - k ⟨⟩ : Nat) : Int) := by rw [wrap64 (by omega) (by omega)]; omega
      have hlen := arrX_len x (k := k ⟨⟩) (by omega)
      cbv
      by_cases h : sh x (k ⟨⟩) < 16
      · have hm : sh x (k ⟨⟩) % 16 = sh x (k ⟨⟩) := Nat.mod_eq_of_lt h
        have hn1 : nd x = k ⟨⟩ + 1 := by rw [hnd, nd_lt h]
        have d1 : (((({ data := { toList := 48 :: 49 :: 50 :: 51 :: 52 :: 53 :: 54 :: 55 :: 56 :: 57 :: 97 :: 98 :: 99 :: 100 :: 101 :: 102 :: 103 :: 104 :: 105 :: 106 :: 107 :: 108 :: 109 :: 110 :: 111 :: 112 :: 113 :: 114 :: 115 :: 116 :: 117 :: 118 :: 119 :: 120 :: 121 :: 122 :: [] } } : ByteArray).data.toList.getD ((sh x (k ⟨⟩) : Nat) : Int).toNat 0).toNat : Nat) : Int) = hxI (sh x (k ⟨⟩) % 16) := by rw [hm]; exact dig36 _ h
        have b1 : 0 ≤ ((sh x (k ⟨⟩) : Nat) : Int) ∧ ((sh x (k ⟨⟩) : Nat) : Int) < ((36 : Nat) : Int) := ⟨Int.natCast_nonneg _, Int.ofNat_lt.2 (by omega)⟩
        have b2 : 0 ≤ IntKind.wrap .i64 (((65 - k ⟨⟩ : Nat) : Int) - 1) ∧ IntKind.wrap .i64 (((65 - k ⟨⟩ : Nat) : Int) - 1) < ((65 : Nat) : Int) := by rw [hi]; exact ⟨Int.natCast_nonneg _, Int.ofNat_lt.2 (by omega)⟩
        have b3 : 0 ≤ IntKind.wrap .i64 (((65 - k ⟨⟩ : Nat) : Int) - 1) ∧ IntKind.wrap .i64 (((65 - k ⟨⟩ : Nat) : Int) - 1) ≤ ((65 : Nat) : Int) ∧ ((65 : Nat) : Int) ≤ ((65 : Nat) : Int) := by rw [hi]; exact ⟨Int.natCast_nonneg _, Int.ofNat_le.2 (by omega), Int.le_refl _⟩
        refine Br.f (leB_no.2 (fun hh => absurd h (Nat.not_lt.2 (Int.ofNat_le.1 (show ((16 : Nat) : Int) ≤ ((sh x (k ⟨⟩) : Nat) : Int) from hh))))) ?_
        cbv
        have v1 : (arrX x (k ⟨⟩)).set (64 - k ⟨⟩) (((({ data := { toList := 48 :: 49 :: 50 :: 51 :: 52 :: 53 :: 54 :: 55 :: 56 :: 57 :: 97 :: 98 :: 99 :: 100 :: 101 :: 102 :: 103 :: 104 :: 105 :: 106 :: 107 :: 108 :: 109 :: 110 :: 111 :: 112 :: 113 :: 114 :: 115 :: 116 :: 117 :: 118 :: 119 :: 120 :: 121 :: 122 :: [] } } : ByteArray).data.toList.getD ((sh x (k ⟨⟩) : Nat) : Int).toNat 0).toNat : Nat) : Int) = arrX x (k ⟨⟩ + 1) := (congrArg (fun z => (arrX x (k ⟨⟩)).set (64 - k ⟨⟩) z) d1).trans (arrX_set x (by omega))
        have v2 : bytesT (((arrX x (k ⟨⟩ + 1)).drop (64 - k ⟨⟩)).take (65 - (64 - k ⟨⟩))) = hexM (u ⟨⟩).toNat := by
          have := arrX_drop x (k := k ⟨⟩ + 1) (by omega)
          rw [show 65 - (k ⟨⟩ + 1) = 64 - k ⟨⟩ by omega] at this
          rw [this, ← hx, ← hn1]; rfl
        have b4 : (IntKind.wrap .i64 (((65 - k ⟨⟩ : Nat) : Int) - 1)).toNat = 64 - k ⟨⟩ := by rw [hi]; rfl
        have b5 : 64 - k ⟨⟩ < (arrX x (k ⟨⟩)).length := by rw [hlen]; omega
        have b6 : 64 - k ⟨⟩ + (65 - (64 - k ⟨⟩)) ≤ (arrX x (k ⟨⟩ + 1)).length := by rw [arrX_len x (by omega)]; omega
        repeat' first
          | (refine Ob.mk ?_ ?_; (focus (first | with_reducible rfl | exact b1 | exact b2 | exact b3 | exact hb | (dsimp only [IE.val, NE.val, IE.nat]; simp only [b4, Nat.mul_one, Nat.zero_add]; first | exact b5 | (rw [v1]; first | exact b6 | exact v2)) | trace_state)); cbv)
          | (refine Br.f hng ?_; cbv)
          | (refine Br.f hap ?_; cbv)
      · have hk6 := sh_big hxl h hk7
        have q1 : ishr .u64 ((sh x (k ⟨⟩) : Nat) : Int) 4 = (sh x (k ⟨⟩ + 1) : Int) := by rw [ishr4, sh_s]
        have a1 := iand16 (n := sh x (k ⟨⟩)) (by omega)
        have d1 : (((({ data := { toList := 48 :: 49 :: 50 :: 51 :: 52 :: 53 :: 54 :: 55 :: 56 :: 57 :: 97 :: 98 :: 99 :: 100 :: 101 :: 102 :: 103 :: 104 :: 105 :: 106 :: 107 :: 108 :: 109 :: 110 :: 111 :: 112 :: 113 :: 114 :: 115 :: 116 :: 117 :: 118 :: 119 :: 120 :: 121 :: 122 :: [] } } : ByteArray).data.toList.getD (iand .u64 ((sh x (k ⟨⟩) : Nat) : Int) 15).toNat 0).toNat : Nat) : Int) = hxI (sh x (k ⟨⟩) % 16) := by rw [a1]; exact dig36 _ (Nat.mod_lt _ (by decide))
        have b1 : 0 ≤ iand .u64 ((sh x (k ⟨⟩) : Nat) : Int) 15 ∧ iand .u64 ((sh x (k ⟨⟩) : Nat) : Int) 15 < ((36 : Nat) : Int) := by rw [a1]; exact ⟨Int.natCast_nonneg _, Int.ofNat_lt.2 (by omega)⟩
        have b2 : 0 ≤ IntKind.wrap .i64 (((65 - k ⟨⟩ : Nat) : Int) - 1) ∧ IntKind.wrap .i64 (((65 - k ⟨⟩ : Nat) : Int) - 1) < ((65 : Nat) : Int) := by rw [hi]; exact ⟨Int.natCast_nonneg _, Int.ofNat_lt.2 (by omega)⟩
        have hmeas : sh x (k ⟨⟩ + 1) < sh x (k ⟨⟩) := by rw [← sh_s]; omega
        have hinv : k ⟨⟩ + 1 ≤ 7 ∧ nd x = (k ⟨⟩ + 1) + nd (sh x (k ⟨⟩ + 1)) := ⟨hk6, by rw [hnd, nd_ge h, sh_s]; omega⟩
        refine Br.t (leB_iff.2 (show ((16 : Nat) : Int) ≤ ((sh x (k ⟨⟩) : Nat) : Int) from Int.ofNat_le.2 (Nat.not_lt.1 h))) ?_
        cbv
        have v1 : (arrX x (k ⟨⟩)).set (64 - k ⟨⟩) (((({ data := { toList := 48 :: 49 :: 50 :: 51 :: 52 :: 53 :: 54 :: 55 :: 56 :: 57 :: 97 :: 98 :: 99 :: 100 :: 101 :: 102 :: 103 :: 104 :: 105 :: 106 :: 107 :: 108 :: 109 :: 110 :: 111 :: 112 :: 113 :: 114 :: 115 :: 116 :: 117 :: 118 :: 119 :: 120 :: 121 :: 122 :: [] } } : ByteArray).data.toList.getD (iand .u64 ((sh x (k ⟨⟩) : Nat) : Int) 15).toNat 0).toNat : Nat) : Int) = arrX x (k ⟨⟩ + 1) := (congrArg (fun z => (arrX x (k ⟨⟩)).set (64 - k ⟨⟩) z) d1).trans (arrX_set x (by omega))
        have b4 : (IntKind.wrap .i64 (((65 - k ⟨⟩ : Nat) : Int) - 1)).toNat = 64 - k ⟨⟩ := by rw [hi]; rfl
        have b5 : 64 - k ⟨⟩ < (arrX x (k ⟨⟩)).length := by rw [hlen]; omega
        have hi2 : IntKind.wrap .i64 (((65 - k ⟨⟩ : Nat) : Int) - 1) = ((65 - (k ⟨⟩ + 1) : Nat) : Int) := by rw [hi, show 65 - (k ⟨⟩ + 1) = 64 - k ⟨⟩ by omega]
        repeat' first
          | (refine Ob.mk ?_ ?_; (focus (first | with_reducible rfl | exact b1 | exact b2 | exact q1 | exact hi2 | (dsimp only [IE.val, NE.val, IE.nat]; simp only [b4, Nat.mul_one, Nat.zero_add]; first | exact b5 | exact v1) | decide | trace_state)); cbv)
          | (refine Next.mk (fun _ => k () + 1) hinv hmeas ?_; cbv)
  · cases hs
theorem fn36 : FnOk Tryd.prog 36 Tryd.f36 (bodyOf Tryd.f36) := ⟨Tryd.func36, rfl, by rfl⟩
def s36 : Spec := hspec fun args H => match args, H with
  | [.c (.i .u64 (.x u)), .c (.i .i64 (.x b))], [] => some (.c (.s fun _ => hexM (u ()).toNat), [], [fun _ => b () = 16 ∧ 0 ≤ u () ∧ u () < 4294967296])
  | _, _ => none
def E36 : Env := fun g => envGetL [(46, ⟨true, s46, none⟩)] g
theorem E36ok : EnvOk Tryd.prog E36 := envOk_cons ok46 (envOk_nil _)
set_option maxRecDepth 100000 in
set_option maxHeartbeats 1000000 in
theorem ok36 : Ok Tryd.prog 36 (s36) := ok_of_wpaH (E := E36) mixed tts E36ok fn36 fun args H v H' o hs ho => by
  split at hs
  · rename_i u b
    cases hs
    obtain ⟨hb, hu⟩ := ho.one
    have hb : b ⟨⟩ = 16 := hb
    have c2 : (b ⟨⟩ == 10) = false := by rw [hb]; decide
    refine ⟨_, HLe.refl _, ?_⟩
    cbv
    refine Br.f c2 ?_
    cbv
    repeat' (refine Ob.mk ?_ ?_; (focus (first | exact ⟨hb, rfl, rfl, hu⟩ | exact rfl)); cbv)
  · cases hs
theorem fn29 : FnOk Tryd.prog 29 Tryd.f29 (bodyOf Tryd.f29) := ⟨Tryd.func29, rfl, by rfl⟩
def s29 : Spec := hspec fun args H => match args, H with
  | [.c (.i .u64 (.x u)), .c (.i .i64 (.x b))], [] => some (.c (.s fun _ => hexM (u ()).toNat), [], [fun _ => b () = 16 ∧ 0 ≤ u () ∧ u () < 4294967296])
  | _, _ => none
def E29 : Env := fun g => envGetL [(36, ⟨true, s36, none⟩)] g
theorem E29ok : EnvOk Tryd.prog E29 := envOk_cons ok36 (envOk_nil _)
set_option maxRecDepth 100000 in
set_option maxHeartbeats 1000000 in
theorem ok29 : Ok Tryd.prog 29 (s29) := ok_of_wpaH (E := E29) mixed tts E29ok fn29 fun args H v H' o hs ho => by
  split at hs
  · rename_i u b
    cases hs
    have hb := ho.one
    refine ⟨_, HLe.refl _, ?_⟩
    cbv
    repeat' (refine Ob.mk ?_ ?_; (focus (first | exact hb | exact rfl)); cbv)
  · cases hs
end Go.Proofs.YtkgkdpjjlkpbfaaDoor.Sh
end
section
namespace Go.Proofs.YtkgkdpjjlkpbfaaDoor.Sh
open Go Go.Proofs
/-! ## zeros ahead of the least digits: eight digits -/
def b8 (n : Int) : UInt8 := UInt8.ofNat n.toNat
theorem push_eq : ∀ (l : List Int) (r : ByteArray), l.foldl (fun r n => r.push (UInt8.ofNat n.toNat)) r = ⟨r.data ++ (l.map b8).toArray⟩
  | [], r => by simp
  | n :: l, r => by
    rw [List.foldl_cons, push_eq l]
    simp [ByteArray.push, b8]
theorem bytesT_eq (l : List Int) : bytesT l = ⟨(l.map b8).toArray⟩ := by
  unfold bytesT
  rw [push_eq]
  have he : ByteArray.empty.data = #[] := rfl
  rw [he]
  simp
theorem mk_append (a b : List UInt8) : (⟨a.toArray⟩ : ByteArray) ++ ⟨b.toArray⟩ = ⟨(a ++ b).toArray⟩ := by
  have : ((⟨a.toArray⟩ : ByteArray) ++ ⟨b.toArray⟩).data = (a ++ b).toArray := by
    rw [ByteArray.data_append]; simp
  calc (⟨a.toArray⟩ : ByteArray) ++ ⟨b.toArray⟩ = ⟨((⟨a.toArray⟩ : ByteArray) ++ ⟨b.toArray⟩).data⟩ := rfl
    _ = _ := by rw [this]
theorem bytesT_append (a b : List Int) : bytesT a ++ bytesT b = bytesT (a ++ b) := by
  rw [bytesT_eq, bytesT_eq, bytesT_eq, mk_append, List.map_append]
theorem hexTo_8 (x : Nat) : hexTo x 8 = digL x 8 := rfl
theorem sh_1 (x j : Nat) : sh x (j + 1) = sh (x / 16) j := by
  unfold sh; rw [Nat.pow_succ, Nat.mul_comm, Nat.div_div_eq_div_mul]
theorem sh_nd : ∀ (n x : Nat), x < n → sh x (nd x) = 0
  | 0, x, h => by omega
  | n + 1, x, h => by
    by_cases h16 : x < 16
    · rw [nd_lt h16, ← sh_s, sh_0]; omega
    · rw [nd_ge h16, sh_1]
      exact sh_nd n (x / 16) (by omega)
theorem nd_le : ∀ (k x : Nat), x < 16 ^ (k + 1) → nd x ≤ k + 1
  | 0, x, h => by rw [nd_lt (by simpa using h)]; omega
  | k + 1, x, h => by
    by_cases h16 : x < 16
    · rw [nd_lt h16]; omega
    · rw [nd_ge h16]
      have : x / 16 < 16 ^ (k + 1) := Nat.div_lt_of_lt_mul (by rw [Nat.pow_succ] at h; omega)
      have := nd_le k (x / 16) this
      omega
theorem nd_8 {x : Nat} (h : x < 4294967296) : nd x ≤ 8 := nd_le 7 x (by simpa using h)
theorem sh_zero {x n : Nat} (h : sh x n = 0) : ∀ m, sh x (n + m) = 0
  | 0 => h
  | m + 1 => by rw [← Nat.add_assoc, ← sh_s, sh_zero h m]
theorem digL_zero {x n : Nat} (h : sh x n = 0) : ∀ m, digL x (n + m) = List.replicate m 48 ++ digL x n
  | 0 => by simp
  | m + 1 => by
    rw [← Nat.add_assoc]
    show hxI (sh x (n + m) % 16) :: digL x (n + m) = _
    rw [sh_zero h m, digL_zero h m, List.replicate_succ]
    rfl
def zerosT (m : Nat) : ByteArray := ⟨(List.replicate m (48 : UInt8)).toArray⟩
theorem zeros_eq (m : Nat) : zerosT m = bytesT (List.replicate m 48) := by
  rw [bytesT_eq, List.map_replicate]; rfl
theorem pad {x : Nat} (h : x < 4294967296) : zerosT (8 - nd x) ++ hexM x = hexT x := by
  unfold hexM hexT
  rw [zeros_eq, bytesT_append, hexTo_8, ← digL_zero (sh_nd (x + 1) x (by omega)), show nd x + (8 - nd x) = 8 from by have := nd_8 h; omega]
theorem hexM_size (x : Nat) : (hexM x).size = nd x := by unfold hexM; rw [bytesT_size, digL_len]
end Go.Proofs.YtkgkdpjjlkpbfaaDoor.Sh
end
