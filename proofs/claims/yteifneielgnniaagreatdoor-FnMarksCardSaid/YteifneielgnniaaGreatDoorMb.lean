/- Texts of numbers. No condition. -/
import Derived.Test.YteifneielgnniaaGreatDoorMa
import Derived.Shelf.Strings.Repeat
import Derived.Lib.Agree
import Derived.Shelf.Strings.OnBuilder
set_option linter.unusedVariables false
set_option linter.unusedSimpArgs false
set_option linter.unusedSectionVars false
section
namespace Go.Proofs.YteifneielgnniaaGreatDoor.Sh
open Go Go.Proofs
section
def bitsX (a : Nat) : Nat := if isNan a = true then 2143289344 else a
theorem bits_t {a : Nat} (h : isNan a = true) : bitsX a = 2143289344 := if_pos h
theorem bits_f {a : Nat} (h : isNan a = false) : bitsX a = a := if_neg (by rw [h]; decide)
theorem bool_ft (b : Bool) : b = false ∨ b = true := by cases b <;> simp
theorem ntf {b : Bool} (h : b = true) : (!b) = false := by rw [h]; rfl
theorem nft {b : Bool} (h : b = false) : (!b) = true := by rw [h]; rfl
theorem fn152 : FnOk Tryz.prog 152 Tryz.f152 (bodyOf Tryz.f152) := ⟨Tryz.func152, rfl, by rfl⟩
def s152 : Spec := hspec fun args H => match args, H with
  | [.c (.f .f32 a)], [] => some (.c (.i .u32 (.x fun _ => (bitsX (a ()) : Int))), [], [])
  | _, _ => none
def E152 : Env := fun g => envGetL [(117, ⟨true, s117, none⟩)] g
theorem E152ok : EnvOk Tryz.prog E152 := envOk_cons ok117 (envOk_nil _)
set_option maxRecDepth 100000 in
set_option maxHeartbeats 1000000 in
theorem ok152 : Ok Tryz.prog 152 (s152) := ok_of_wpaH (E := E152) mixed tts E152ok fn152 fun args H v H' o hs ho => by
  split at hs
  · rename_i a
    cases hs
    refine ⟨_, HLe.refl _, ?_⟩
    cbv
    rcases bool_ft (isNan (a ⟨⟩)) with h | h
    · have e1 : ((a ⟨⟩ : Nat) : Int) = (bitsX (a ⟨⟩) : Int) := by rw [bits_f h]
      refine Br.f h ?_
      cbv
      repeat' (refine Ob.mk ?_ ?_; (focus (first | exact h | exact e1 | exact rfl)); cbv)
    · have e1 : (2143289344 : Int) = (bitsX (a ⟨⟩) : Int) := by rw [bits_t h]; rfl
      refine Br.t h ?_
      cbv
      repeat' (refine Ob.mk ?_ ?_; (focus (first | exact e1 | exact rfl)); cbv)
  · cases hs
end
section
theorem wrapU32 {x : Int} (h0 : 0 ≤ x) (h1 : x < 4294967296) : IntKind.wrap .u32 x = x := by
  unfold IntKind.wrap IntKind.signed IntKind.bits
  simp
  omega
def hxI (d : Nat) : Int := ([48, 49, 50, 51, 52, 53, 54, 55, 56, 57, 97, 98, 99, 100, 101, 102] : List Int).getD d 0
def sh (x j : Nat) : Nat := x / 16 ^ j
theorem sh_0 (x : Nat) : sh x 0 = x := by unfold sh; simp
theorem sh_s (x j : Nat) : sh x j / 16 = sh x (j + 1) := by unfold sh; rw [Nat.div_div_eq_div_mul, Nat.pow_succ]
theorem sh_le (x j : Nat) : sh x j ≤ x := Nat.div_le_self _ _
theorem tmod16 (n : Nat) : ((n : Int).tmod 16) = ((n % 16 : Nat) : Int) := rfl
theorem dig_at : ∀ d, d < 16 → (((({ data := #[48, 49, 50, 51, 52, 53, 54, 55, 56, 57, 97, 98, 99, 100, 101, 102] } : ByteArray).data.toList.getD d 0).toNat : Nat) : Int) = hxI d := by decide
theorem dig_mod (n : Nat) : (((({ data := #[48, 49, 50, 51, 52, 53, 54, 55, 56, 57, 97, 98, 99, 100, 101, 102] } : ByteArray).data.toList.getD ((n : Int).tmod 16).toNat 0).toNat : Nat) : Int) = hxI (n % 16) := by
  rw [tmod16]
  exact dig_at _ (Nat.mod_lt _ (by decide))
/-- so many digits are laid, from the right -/
def hexTo (x : Nat) : Nat → List Int
  | 0 => [0, 0, 0, 0, 0, 0, 0, 0]
  | j + 1 => (hexTo x j).set (7 - j) (hxI (sh x j % 16))
theorem hexTo_len (x : Nat) : ∀ j, (hexTo x j).length = 8
  | 0 => rfl
  | j + 1 => by unfold hexTo; rw [List.length_set, hexTo_len x j]
def hexT (x : Nat) : ByteArray := bytesT (hexTo x 8)
theorem bitsX_lt {a : Nat} (h : a < 4294967296) : bitsX a < 4294967296 := by
  unfold bitsX; split <;> omega
theorem fn153 : FnOk Tryz.prog 153 Tryz.f153 (bodyOf Tryz.f153) := ⟨Tryz.func153, rfl, by rfl⟩
def s153 : Spec := hspec fun args H => match args, H with
  | [.c (.f .f32 a)], [] => some (.c (.s fun _ => hexT (bitsX (a ()))), [], [fun _ => a () < 4294967296])
  | _, _ => none
def E153 : Env := fun g => envGetL [(152, ⟨true, s152, none⟩)] g
theorem E153ok : EnvOk Tryz.prog E153 := envOk_cons ok152 (envOk_nil _)
set_option maxRecDepth 100000 in
set_option maxHeartbeats 2000000 in
theorem ok153 : Ok Tryz.prog 153 (s153) := ok_of_wpaH (E := E153) mixed tts E153ok fn153 fun args H v H' o hs ho => by
  split at hs
  · rename_i a
    cases hs
    have ha : a ⟨⟩ < 4294967296 := ho.one
    have hb := bitsX_lt ha
    have e0 : ((bitsX (a ⟨⟩) : Nat) : Int) = (sh (bitsX (a ⟨⟩)) 0 : Int) := by rw [sh_0]
    have h0 : ∀ j, 0 ≤ ((sh (bitsX (a ⟨⟩)) j : Nat) : Int).tmod 16 := fun j => by rw [tmod16]; exact Int.natCast_nonneg _
    have h1 : ∀ j, ((sh (bitsX (a ⟨⟩)) j : Nat) : Int).tmod 16 < ((16 : Nat) : Int) := fun j => by rw [tmod16]; exact Int.ofNat_lt.2 (Nat.mod_lt _ (by decide))
    have hq : ∀ j, IntKind.wrap .u32 (((sh (bitsX (a ⟨⟩)) j : Nat) : Int).tdiv 16) = (sh (bitsX (a ⟨⟩)) (j + 1) : Int) := fun j => by
      have hle := sh_le (bitsX (a ⟨⟩)) j
      rw [← sh_s, show ((sh (bitsX (a ⟨⟩)) j : Nat) : Int).tdiv 16 = ((sh (bitsX (a ⟨⟩)) j / 16 : Nat) : Int) from rfl]
      exact wrapU32 (Int.natCast_nonneg _) (by omega)
    have hst : ∀ j, (hexTo (bitsX (a ⟨⟩)) j).set (7 - j) (((({ data := #[48, 49, 50, 51, 52, 53, 54, 55, 56, 57, 97, 98, 99, 100, 101, 102] } : ByteArray).data.toList.getD (((sh (bitsX (a ⟨⟩)) j : Nat) : Int).tmod 16).toNat 0).toNat : Nat) : Int) = hexTo (bitsX (a ⟨⟩)) (j + 1) := fun j => by
      rw [dig_mod]; rfl
    refine ⟨_, HLe.refl _, ?_⟩
    cbv
    repeat' (refine Ob.mk ?_ ?_; (focus (first | exact rfl | exact ⟨by decide, by decide, by decide, by decide⟩)); cbv)
    refine Loop.mk 70 ?_
    cbv
    refine Gen.mk (fr 23 [(3, .c (.i .u32 (.x fun _ => (sh (bitsX (a ())) 0 : Int)))), (4, .c (.sl 0 (.l 0) (.l 8))), (5, .c (.i .i64 (.l 7)))]) [some ⟨true, 1, .it .u8 fun _ => hexTo (bitsX (a ())) 0⟩] ?_
    cbv
    repeat' (refine Ob.mk ?_ ?_; (focus (first | exact hst _ | exact hq _ | exact e0 | exact ⟨h0 _, h1 _⟩ | (dsimp only [IE.val, NE.val]; rw [hexTo_len]; decide) | exact rfl | decide | exact ⟨by decide, by decide, by decide, by decide⟩)); cbv)
    refine Gen.mk (fr 23 [(3, .c (.i .u32 (.x fun _ => (sh (bitsX (a ())) 1 : Int)))), (4, .c (.sl 0 (.l 0) (.l 8))), (5, .c (.i .i64 (.l 6)))]) [some ⟨true, 1, .it .u8 fun _ => hexTo (bitsX (a ())) 1⟩] ?_
    cbv
    repeat' (refine Ob.mk ?_ ?_; (focus (first | exact hst _ | exact hq _ | exact e0 | exact ⟨h0 _, h1 _⟩ | (dsimp only [IE.val, NE.val]; rw [hexTo_len]; decide) | exact rfl | decide | exact ⟨by decide, by decide, by decide, by decide⟩)); cbv)
    refine Gen.mk (fr 23 [(3, .c (.i .u32 (.x fun _ => (sh (bitsX (a ())) 2 : Int)))), (4, .c (.sl 0 (.l 0) (.l 8))), (5, .c (.i .i64 (.l 5)))]) [some ⟨true, 1, .it .u8 fun _ => hexTo (bitsX (a ())) 2⟩] ?_
    cbv
    repeat' (refine Ob.mk ?_ ?_; (focus (first | exact hst _ | exact hq _ | exact e0 | exact ⟨h0 _, h1 _⟩ | (dsimp only [IE.val, NE.val]; rw [hexTo_len]; decide) | exact rfl | decide | exact ⟨by decide, by decide, by decide, by decide⟩)); cbv)
    refine Gen.mk (fr 23 [(3, .c (.i .u32 (.x fun _ => (sh (bitsX (a ())) 3 : Int)))), (4, .c (.sl 0 (.l 0) (.l 8))), (5, .c (.i .i64 (.l 4)))]) [some ⟨true, 1, .it .u8 fun _ => hexTo (bitsX (a ())) 3⟩] ?_
    cbv
    repeat' (refine Ob.mk ?_ ?_; (focus (first | exact hst _ | exact hq _ | exact e0 | exact ⟨h0 _, h1 _⟩ | (dsimp only [IE.val, NE.val]; rw [hexTo_len]; decide) | exact rfl | decide | exact ⟨by decide, by decide, by decide, by decide⟩)); cbv)
    refine Gen.mk (fr 23 [(3, .c (.i .u32 (.x fun _ => (sh (bitsX (a ())) 4 : Int)))), (4, .c (.sl 0 (.l 0) (.l 8))), (5, .c (.i .i64 (.l 3)))]) [some ⟨true, 1, .it .u8 fun _ => hexTo (bitsX (a ())) 4⟩] ?_
    cbv
    repeat' (refine Ob.mk ?_ ?_; (focus (first | exact hst _ | exact hq _ | exact e0 | exact ⟨h0 _, h1 _⟩ | (dsimp only [IE.val, NE.val]; rw [hexTo_len]; decide) | exact rfl | decide | exact ⟨by decide, by decide, by decide, by decide⟩)); cbv)
    refine Gen.mk (fr 23 [(3, .c (.i .u32 (.x fun _ => (sh (bitsX (a ())) 5 : Int)))), (4, .c (.sl 0 (.l 0) (.l 8))), (5, .c (.i .i64 (.l 2)))]) [some ⟨true, 1, .it .u8 fun _ => hexTo (bitsX (a ())) 5⟩] ?_
    cbv
    repeat' (refine Ob.mk ?_ ?_; (focus (first | exact hst _ | exact hq _ | exact e0 | exact ⟨h0 _, h1 _⟩ | (dsimp only [IE.val, NE.val]; rw [hexTo_len]; decide) | exact rfl | decide | exact ⟨by decide, by decide, by decide, by decide⟩)); cbv)
    refine Gen.mk (fr 23 [(3, .c (.i .u32 (.x fun _ => (sh (bitsX (a ())) 6 : Int)))), (4, .c (.sl 0 (.l 0) (.l 8))), (5, .c (.i .i64 (.l 1)))]) [some ⟨true, 1, .it .u8 fun _ => hexTo (bitsX (a ())) 6⟩] ?_
    cbv
    repeat' (refine Ob.mk ?_ ?_; (focus (first | exact hst _ | exact hq _ | exact e0 | exact ⟨h0 _, h1 _⟩ | (dsimp only [IE.val, NE.val]; rw [hexTo_len]; decide) | exact rfl | decide | exact ⟨by decide, by decide, by decide, by decide⟩)); cbv)
    refine Gen.mk (fr 23 [(3, .c (.i .u32 (.x fun _ => (sh (bitsX (a ())) 7 : Int)))), (4, .c (.sl 0 (.l 0) (.l 8))), (5, .c (.i .i64 (.l 0)))]) [some ⟨true, 1, .it .u8 fun _ => hexTo (bitsX (a ())) 7⟩] ?_
    cbv
    repeat' (refine Ob.mk ?_ ?_; (focus (first | exact hst _ | exact hq _ | exact e0 | exact ⟨h0 _, h1 _⟩ | (dsimp only [IE.val, NE.val]; rw [hexTo_len]; decide) | exact rfl | decide | exact ⟨by decide, by decide, by decide, by decide⟩)); cbv)
    refine Gen.mk (fr 23 [(3, .c (.i .u32 (.x fun _ => (sh (bitsX (a ())) 8 : Int)))), (4, .c (.sl 0 (.l 0) (.l 8))), (5, .c (.i .i64 (.l (-1))))]) [some ⟨true, 1, .it .u8 fun _ => hexTo (bitsX (a ())) 8⟩] ?_
    cbv
    repeat' (refine Ob.mk ?_ ?_; (focus (first | exact hst _ | exact hq _ | exact e0 | exact ⟨h0 _, h1 _⟩ | (dsimp only [IE.val, NE.val]; rw [hexTo_len]; decide) | exact rfl | decide | exact ⟨by decide, by decide, by decide, by decide⟩)); cbv)
  · cases hs
theorem fn125 : FnOk Tryz.prog 125 Tryz.f125 (bodyOf Tryz.f125) := ⟨Tryz.func125, rfl, by rfl⟩
def s125 : Spec := hspec fun args H => match args, H with
  | [.c (.f .f32 a)], [] => some (.c (.s fun _ => hexT (bitsX (a ()))), [], [fun _ => a () < 4294967296])
  | _, _ => none
def E125 : Env := fun g => envGetL [(153, ⟨true, s153, none⟩)] g
theorem E125ok : EnvOk Tryz.prog E125 := envOk_cons ok153 (envOk_nil _)
set_option maxRecDepth 100000 in
set_option maxHeartbeats 1000000 in
theorem ok125 : Ok Tryz.prog 125 (s125) := ok_of_wpaH (E := E125) mixed tts E125ok fn125 fun args H v H' o hs ho => by
  split at hs
  · rename_i a
    cases hs
    have ha := ho.one
    refine ⟨_, HLe.refl _, ?_⟩
    cbv
    repeat' (refine Ob.mk ?_ ?_; (focus (first | exact ha | exact rfl)); cbv)
  · cases hs
end
section
theorem push_size : ∀ (l : List Int) (r : ByteArray), (l.foldl (fun r n => r.push (UInt8.ofNat n.toNat)) r).size = r.size + l.length
  | [], r => rfl
  | n :: l, r => by
    rw [List.foldl_cons, push_size l, ByteArray.size_push, List.length_cons]; omega
theorem bytesT_size (l : List Int) : (bytesT l).size = l.length := by
  unfold bytesT; rw [push_size]; simp
theorem hexT_size (x : Nat) : (hexT x).size = 8 := by unfold hexT; rw [bytesT_size, hexTo_len]
abbrev spT : ByteArray := { data := #[32] }
abbrev numT (a : Nat) : ByteArray := hexT (bitsX a)
theorem numT_size (a : Nat) : (numT a).size = 8 := hexT_size _
attribute [local irreducible] hexT bitsX
end
section
attribute [local irreducible] hexT bitsX
end
end Go.Proofs.YteifneielgnniaaGreatDoor.Sh
end
section
namespace Go.Proofs.YteifneielgnniaaGreatDoor.Sh
open Go Go.Proofs
section
/-! ## the digits of a number -/
def nd (x : Nat) : Nat := if h : x < 16 then 1 else nd (x / 16) + 1
termination_by x
decreasing_by omega
theorem nd_lt {x : Nat} (h : x < 16) : nd x = 1 := by unfold nd; rw [dif_pos h]
theorem nd_ge {x : Nat} (h : ¬ x < 16) : nd x = nd (x / 16) + 1 := by
  conv => lhs; unfold nd
  rw [dif_neg h]
def digL (x : Nat) : Nat → List Int
  | 0 => []
  | k + 1 => hxI (sh x k % 16) :: digL x k
theorem digL_len (x : Nat) : ∀ k, (digL x k).length = k
  | 0 => rfl
  | k + 1 => by unfold digL; rw [List.length_cons, digL_len x k]
def arrX (x k : Nat) : List Int := List.replicate (65 - k) 0 ++ digL x k
theorem arrX_len (x : Nat) {k : Nat} (h : k ≤ 65) : (arrX x k).length = 65 := by
  unfold arrX; rw [List.length_append, List.length_replicate, digL_len]; omega
theorem arrX_set (x : Nat) {k : Nat} (h : k ≤ 64) : (arrX x k).set (64 - k) (hxI (sh x k % 16)) = arrX x (k + 1) := by
  unfold arrX
  rw [show 65 - k = (64 - k) + 1 by omega, List.replicate_succ', List.append_assoc, List.set_append_right _ _ (by simp), List.length_replicate, Nat.sub_self, show 65 - (k + 1) = 64 - k by omega]
  rfl
theorem arrX_drop (x : Nat) {k : Nat} (h : k ≤ 65) : ((arrX x k).drop (65 - k)).take (65 - (65 - k)) = digL x k := by
  unfold arrX
  rw [List.drop_append_of_le_length (by simp), List.drop_eq_nil_of_le (by simp), List.nil_append, List.take_of_length_le (by rw [digL_len]; omega)]
/-- the least number of digits -/
def hexM (x : Nat) : ByteArray := bytesT (digL x (nd x))
theorem sh_big {x k : Nat} (hx : x < 4294967296) (h : ¬ sh x k < 16) (hk : k ≤ 7) : k + 1 ≤ 7 := by
  by_cases h7 : k = 7
  · subst h7
    exfalso; apply h
    unfold sh
    exact Nat.div_lt_of_lt_mul (by omega)
  · omega
theorem iand16 {n : Nat} (h : n < 18446744073709551616) : iand .u64 (n : Int) 15 = ((n % 16 : Nat) : Int) := by
  unfold iand
  have e : (BitVec.ofInt 64 (n : Int) &&& BitVec.ofInt 64 15).toNat = n % 16 := by
    rw [BitVec.toNat_and, BitVec.toNat_ofInt, BitVec.toNat_ofInt]
    have e1 : (((n : Int) % ((2 ^ 64 : Nat) : Int)).toNat) = n := by omega
    have e2 : (((15 : Int) % ((2 ^ 64 : Nat) : Int)).toNat) = 15 := by decide
    rw [e1, e2, show (15 : Nat) = 2 ^ 4 - 1 from rfl, Nat.and_two_pow_sub_one_eq_mod]
  show IntKind.wrap .u64 ((BitVec.ofInt 64 (n : Int) &&& BitVec.ofInt 64 15).toNat : Int) = _
  rw [e]
  unfold IntKind.wrap IntKind.signed IntKind.bits
  simp
  omega
theorem ishr4 (n : Nat) : ishr .u64 (n : Int) 4 = ((n / 16 : Nat) : Int) := by
  unfold ishr
  show Int.fdiv (n : Int) 16 = _
  rw [Int.fdiv_eq_ediv_of_nonneg _ (by decide)]
  rfl
theorem wrapU64 {x : Int} (h0 : 0 ≤ x) (h1 : x < 18446744073709551616) : IntKind.wrap .u64 x = x := by
  unfold IntKind.wrap IntKind.signed IntKind.bits
  simp
  omega
theorem dig36 : ∀ d, d < 16 → (((({ data := { toList := 48 :: 49 :: 50 :: 51 :: 52 :: 53 :: 54 :: 55 :: 56 :: 57 :: 97 :: 98 :: 99 :: 100 :: 101 :: 102 :: 103 :: 104 :: 105 :: 106 :: 107 :: 108 :: 109 :: 110 :: 111 :: 112 :: 113 :: 114 :: 115 :: 116 :: 117 :: 118 :: 119 :: 120 :: 121 :: 122 :: [] } } : ByteArray).data.toList.getD d 0).toNat : Nat) : Int) = hxI d := by decide
theorem fn204 : FnOk Tryz.prog 204 Tryz.f204 (bodyOf Tryz.f204) := ⟨Tryz.func204, rfl, by rfl⟩
theorem tz64 (w : World) (h : w.cell? ⟨8, 15, none⟩ = some (.int .u8 4)) : Calls Tryz.prog 204 #[.int .u64 16] w fun e w' => e = .returned (.int .i64 4) ∧ w' = w := by
  have h7 : IntKind.u64.wrap (-16) = 18446744073709551600 := by decide +kernel
  have h8 : bits BinOp.and IntKind.u64 16 18446744073709551600 = 16 := by decide +kernel
  have h9 : IntKind.u64.wrap (16 * 285870213051353865) = 4573923408821661840 := by decide +kernel
  have h9' : IntKind.u64.wrap 4573923408821661840 = 4573923408821661840 := by decide +kernel
  go_enter Tryz.func204, Tryz.ntmps204
  go_wp2
  go_ret
  exact ⟨rfl, rfl⟩
def s204 : Spec := fun args H => match args with
  | [.c (.i .u64 e)] => some (.c (.i .i64 (.l 4)), H, [fun _ => e.val = 16])
  | _ => none
theorem ok204 : Ok Tryz.prog 204 s204 := by
  intro args H v H' o hs ho μ W w vs hW hH hr
  unfold s204 at hs
  split at hs
  · rename_i e
    cases hs
    match vs, hr with
    | [x], hr =>
      obtain ⟨hx, _⟩ := hr
      have he := ho.one
      have hx : x = .int .u64 e.val := hx
      have he : e.val = 16 := he
      rw [he] at hx
      subst hx
      obtain ⟨_, _, v0, ht, rfl⟩ := hW.tab (8, 15, fun v => v = .int .u8 4) (by simp [tabCells])
      exact .inl ⟨callFunc_run fn204 _ _, (tz64 w ht).mono fun e' w' ⟨h1, h2⟩ => ⟨_, h1, μ, agree.refl _ _, Nat.le_refl _, h2 ▸ hH, rfl, h2 ▸ Fr.refl _ _⟩⟩
  · cases hs
theorem fn197 : FnOk Tryz.prog 197 Tryz.f197 (bodyOf Tryz.f197) := ⟨Tryz.func197, rfl, by rfl⟩
def s197 : Spec := hspec fun args H => match args, H with
  | [.c (.i .u64 (.x a))], [] => some (.c (.i .i64 (.l 4)), [], [fun _ => a () = 16])
  | _, _ => none
def E197 : Env := fun g => envGetL [(204, ⟨true, s204, none⟩)] g
theorem E197ok : EnvOk Tryz.prog E197 := envOk_cons ok204 (envOk_nil _)
set_option maxRecDepth 100000 in
set_option maxHeartbeats 1000000 in
theorem ok197 : Ok Tryz.prog 197 (s197) := ok_of_wpaH (E := E197) mixed tts E197ok fn197 fun args H v H' o hs ho => by
  split at hs
  · rename_i a
    cases hs
    have ha := ho.one
    refine ⟨_, HLe.refl _, ?_⟩
    cbv
    repeat' (refine Ob.mk ?_ ?_; (focus (first | exact ha | exact rfl)); cbv)
  · cases hs
theorem fn196 : FnOk Tryz.prog 196 Tryz.f196 (bodyOf Tryz.f196) := ⟨Tryz.func196, rfl, by rfl⟩
def s196 : Spec := hspec fun args H => match args, H with
  | [.c (.i .i64 (.x a))], [] => some (.c (.b (.x fun _ => true)), [], [fun _ => a () = 16])
  | _, _ => none
set_option maxRecDepth 100000 in
set_option maxHeartbeats 1000000 in
theorem ok196 : Ok Tryz.prog 196 (s196) := ok_of_wpaH (E := envGetL []) mixed tts (envOk_nil _) fn196 fun args H v H' o hs ho => by
  split at hs
  · rename_i a
    cases hs
    have ha : a ⟨⟩ = 16 := ho.one
    have e1 : (iand .i64 (a ⟨⟩) (IntKind.wrap .i64 (a ⟨⟩ - 1)) == 0) = true := by rw [ha]; decide
    refine ⟨_, HLe.refl _, ?_⟩
    cbv
    repeat' (refine Ob.mk ?_ ?_; (focus (first | exact e1 | exact rfl)); cbv)
  · cases hs
end
section
theorem fn176 : FnOk Tryz.prog 176 Tryz.f176 (bodyOf Tryz.f176) := ⟨Tryz.func176, rfl, by rfl⟩
def s176 : Spec := hspec fun args H => match args, H with
  | [.c .sn, .c (.i .u64 (.x u)), .c (.i .i64 (.x b)), .c (.b (.x ng)), .c (.b (.x ap))], [] => some (.t [.c .sn, .c (.s fun _ => hexM (u ()).toNat)], [], [fun _ => b () = 16 ∧ ng () = false ∧ ap () = false ∧ 0 ≤ u () ∧ u () < 4294967296])
  | _, _ => none
def E176 : Env := fun g => envGetL [(196, ⟨true, s196, none⟩), (197, ⟨true, s197, none⟩)] g
theorem E176ok : EnvOk Tryz.prog E176 := envOk_cons ok196 (envOk_cons ok197 (envOk_nil _))
set_option maxRecDepth 100000 in
set_option maxHeartbeats 4000000 in
theorem ok176 : Ok Tryz.prog 176 (s176) := ok_of_wpaH (E := E176) mixed tts E176ok fn176 fun args H v H' o hs ho => by
  split at hs
  · rename_i u b ng ap
    cases hs
    obtain ⟨hb, hng, hap, hu0, hu1⟩ := ho.one
    have hb : b ⟨⟩ = 16 := hb
    have hng : ng ⟨⟩ = false := hng
    have hap : ap ⟨⟩ = false := hap
    have hu0 : 0 ≤ u ⟨⟩ := hu0
    have hu1 : u ⟨⟩ < 4294967296 := hu1
    obtain ⟨x, hx⟩ : ∃ x : Nat, x = (u ⟨⟩).toNat := ⟨_, rfl⟩
    have hux : u ⟨⟩ = (x : Int) := by omega
    have hxl : x < 4294967296 := by omega
    have c1 : ltB (b ⟨⟩) 2 = false := by rw [hb]; decide
    have c2 : (b ⟨⟩ == 10) = false := by rw [hb]; decide
    have c3 : ltB 36 (b ⟨⟩) = false := by rw [hb]; decide
    have w1 : IntKind.wrap .u64 (b ⟨⟩) = 16 := by rw [hb]; decide
    have w2 : IntKind.wrap .u64 (IntKind.wrap .u64 (b ⟨⟩) - 1) = 15 := by rw [hb]; decide
    have e0 : u ⟨⟩ = (sh x 0 : Int) := by rw [sh_0, hux]
    have r0 : List.replicate 65 (0 : Int) = arrX x 0 := by unfold arrX; rw [show digL x 0 = [] from rfl, List.append_nil]
    refine ⟨_, HLe.refl _, ?_⟩
    cbv
    refine Br.f c1 ?_
    cbv
    refine Br.f c2 ?_
    cbv
    refine Br.f c3 ?_
    cbv
    refine Br.f hng ?_
    cbv
    repeat' (refine Ob.mk ?_ ?_; (focus (first | exact hb | exact rfl)); cbv)
    refine Br.t rfl ?_
    cbv
    repeat' (refine Ob.mk ?_ ?_; (focus (first | exact w1 | exact rfl)); cbv)
    refine loop_rule (α := Unit → Nat) (c := ⟨tt, E176, 0⟩)
        (fun k => fr 102 [(0, .c .sn), (1, .c (.i .u64 (.x fun _ => (sh x (k ()) : Int)))), (3, .c (.b (.x ng))), (4, .c (.b (.x ap))), (10, .c .sn), (12, .c (.p 0 (.l 0))), (13, .c (.i .i64 (.x fun _ => ((65 - k () : Nat) : Int)))), (14, .c (.i .u64 (.l 4))), (15, .c (.i .u64 (.l 16))), (16, .c (.i .u64 (.l 15)))]) (fun k => [some ⟨true, 0, .it .u8 fun _ => arrX x (k ())⟩])
        (fun k => k () ≤ 7 ∧ nd x = k () + nd (sh x (k ()))) (fun k => sh x (k ())) (fun _ => x + 1) ?_ ?_
    · refine .mk (fun _ => 0) ⟨Nat.zero_le _, by show nd x = 0 + nd (sh x 0); rw [sh_0, Nat.zero_add]⟩ (by show sh x 0 < x + 1; rw [sh_0]; omega) ?_
      cbv
      repeat' (refine Ob.mk ?_ ?_; (focus (first | with_reducible rfl | exact e0 | exact w1 | exact w2 | exact r0 | exact rfl)); cbv)
    · intro k hk
      obtain ⟨hk7, hnd⟩ := hk
      have hk7 : k ⟨⟩ ≤ 7 := hk7
      have hnd : nd x = k ⟨⟩ + nd (sh x (k ⟨⟩)) := hnd
      have hle := sh_le x (k ⟨⟩)
      have hi : IntKind.wrap .i64 (((65 - k ⟨⟩ : Nat) : Int) - 1) = ((64 - k ⟨⟩ : Nat) : Int) := by rw [wrap64 (by omega) (by omega)]; omega
      have hlen := arrX_len x (k := k ⟨⟩) (by omega)
      cbv
      by_cases h : sh x (k ⟨⟩) < 16
      · have hm : sh x (k ⟨⟩) % 16 = sh x (k ⟨⟩) := Nat.mod_eq_of_lt h
        have hn1 : nd x = k ⟨⟩ + 1 := by rw [hnd, nd_lt h]
        have d1 : (((({ data := { toList := 48 :: 49 :: 50 :: 51 :: 52 :: 53 :: 54 :: 55 :: 56 :: 57 :: 97 :: 98 :: 99 :: 100 :: 101 :: 102 :: 103 :: 104 :: 105 :: 106 :: 107 :: 108 :: 109 :: 110 :: 111 :: 112 :: 113 :: 114 :: 115 :: 116 :: 117 :: 118 :: 119 :: 120 :: 121 :: 122 :: [] } } : ByteArray).data.toList.getD ((sh x (k ⟨⟩) : Nat) : Int).toNat 0).toNat : Nat) : Int) = hxI (sh x (k ⟨⟩) % 16) := by rw [hm]; exact dig36 _ h
        have b1 : 0 ≤ ((sh x (k ⟨⟩) : Nat) : Int) ∧ ((sh x (k ⟨⟩) : Nat) : Int) < ((36 : Nat) : Int) := ⟨Int.natCast_nonneg _, Int.ofNat_lt.2 (by omega)⟩
        have b2 : 0 ≤ IntKind.wrap .i64 (((65 - k ⟨⟩ : Nat) : Int) - 1) ∧ IntKind.wrap .i64 (((65 - k ⟨⟩ : Nat) : Int) - 1) < ((65 : Nat) : Int) := by rw [hi]; exact ⟨Int.natCast_nonneg _, Int.ofNat_lt.2 (by omega)⟩
        have b3 : 0 ≤ IntKind.wrap .i64 (((65 - k ⟨⟩ : Nat) : Int) - 1) ∧ IntKind.wrap .i64 (((65 - k ⟨⟩ : Nat) : Int) - 1) ≤ ((65 : Nat) : Int) ∧ ((65 : Nat) : Int) ≤ ((65 : Nat) : Int) := by rw [hi]; exact ⟨Int.natCast_nonneg _, Int.ofNat_le.2 (by omega), Int.le_refl _⟩
        refine Br.f (leB_no.2 (fun hh => absurd h (Nat.not_lt.2 (Int.ofNat_le.1 (show ((16 : Nat) : Int) ≤ ((sh x (k ⟨⟩) : Nat) : Int) from hh))))) ?_
        cbv
        have v1 : (arrX x (k ⟨⟩)).set (64 - k ⟨⟩) (((({ data := { toList := 48 :: 49 :: 50 :: 51 :: 52 :: 53 :: 54 :: 55 :: 56 :: 57 :: 97 :: 98 :: 99 :: 100 :: 101 :: 102 :: 103 :: 104 :: 105 :: 106 :: 107 :: 108 :: 109 :: 110 :: 111 :: 112 :: 113 :: 114 :: 115 :: 116 :: 117 :: 118 :: 119 :: 120 :: 121 :: 122 :: [] } } : ByteArray).data.toList.getD ((sh x (k ⟨⟩) : Nat) : Int).toNat 0).toNat : Nat) : Int) = arrX x (k ⟨⟩ + 1) := (congrArg (fun z => (arrX x (k ⟨⟩)).set (64 - k ⟨⟩) z) d1).trans (arrX_set x (by omega))
        have v2 : bytesT (((arrX x (k ⟨⟩ + 1)).drop (64 - k ⟨⟩)).take (65 - (64 - k ⟨⟩))) = hexM (u ⟨⟩).toNat := by
          have := arrX_drop x (k := k ⟨⟩ + 1) (by omega)
          rw [show 65 - (k ⟨⟩ + 1) = 64 - k ⟨⟩ by omega] at this
          rw [this, ← hx, ← hn1]; rfl
        have b4 : (IntKind.wrap .i64 (((65 - k ⟨⟩ : Nat) : Int) - 1)).toNat = 64 - k ⟨⟩ := by rw [hi]; rfl
        have b5 : 64 - k ⟨⟩ < (arrX x (k ⟨⟩)).length := by rw [hlen]; omega
        have b6 : 64 - k ⟨⟩ + (65 - (64 - k ⟨⟩)) ≤ (arrX x (k ⟨⟩ + 1)).length := by rw [arrX_len x (by omega)]; omega
        repeat' first
          | (refine Ob.mk ?_ ?_; (focus (first | with_reducible rfl | exact b1 | exact b2 | exact b3 | exact hb | (dsimp only [IE.val, NE.val, IE.nat]; simp only [b4, Nat.mul_one, Nat.zero_add]; first | exact b5 | (rw [v1]; first | exact b6 | exact v2)) | trace_state)); cbv)
          | (refine Br.f hng ?_; cbv)
          | (refine Br.f hap ?_; cbv)
      · have hk6 := sh_big hxl h hk7
        have q1 : ishr .u64 ((sh x (k ⟨⟩) : Nat) : Int) 4 = (sh x (k ⟨⟩ + 1) : Int) := by rw [ishr4, sh_s]
        have a1 := iand16 (n := sh x (k ⟨⟩)) (by omega)
        have d1 : (((({ data := { toList := 48 :: 49 :: 50 :: 51 :: 52 :: 53 :: 54 :: 55 :: 56 :: 57 :: 97 :: 98 :: 99 :: 100 :: 101 :: 102 :: 103 :: 104 :: 105 :: 106 :: 107 :: 108 :: 109 :: 110 :: 111 :: 112 :: 113 :: 114 :: 115 :: 116 :: 117 :: 118 :: 119 :: 120 :: 121 :: 122 :: [] } } : ByteArray).data.toList.getD (iand .u64 ((sh x (k ⟨⟩) : Nat) : Int) 15).toNat 0).toNat : Nat) : Int) = hxI (sh x (k ⟨⟩) % 16) := by rw [a1]; exact dig36 _ (Nat.mod_lt _ (by decide))
        have b1 : 0 ≤ iand .u64 ((sh x (k ⟨⟩) : Nat) : Int) 15 ∧ iand .u64 ((sh x (k ⟨⟩) : Nat) : Int) 15 < ((36 : Nat) : Int) := by rw [a1]; exact ⟨Int.natCast_nonneg _, Int.ofNat_lt.2 (by omega)⟩
        have b2 : 0 ≤ IntKind.wrap .i64 (((65 - k ⟨⟩ : Nat) : Int) - 1) ∧ IntKind.wrap .i64 (((65 - k ⟨⟩ : Nat) : Int) - 1) < ((65 : Nat) : Int) := by rw [hi]; exact ⟨Int.natCast_nonneg _, Int.ofNat_lt.2 (by omega)⟩
        have hmeas : sh x (k ⟨⟩ + 1) < sh x (k ⟨⟩) := by rw [← sh_s]; omega
        have hinv : k ⟨⟩ + 1 ≤ 7 ∧ nd x = (k ⟨⟩ + 1) + nd (sh x (k ⟨⟩ + 1)) := ⟨hk6, by rw [hnd, nd_ge h, sh_s]; omega⟩
        refine Br.t (leB_iff.2 (show ((16 : Nat) : Int) ≤ ((sh x (k ⟨⟩) : Nat) : Int) from Int.ofNat_le.2 (Nat.not_lt.1 h))) ?_
        cbv
        have v1 : (arrX x (k ⟨⟩)).set (64 - k ⟨⟩) (((({ data := { toList := 48 :: 49 :: 50 :: 51 :: 52 :: 53 :: 54 :: 55 :: 56 :: 57 :: 97 :: 98 :: 99 :: 100 :: 101 :: 102 :: 103 :: 104 :: 105 :: 106 :: 107 :: 108 :: 109 :: 110 :: 111 :: 112 :: 113 :: 114 :: 115 :: 116 :: 117 :: 118 :: 119 :: 120 :: 121 :: 122 :: [] } } : ByteArray).data.toList.getD (iand .u64 ((sh x (k ⟨⟩) : Nat) : Int) 15).toNat 0).toNat : Nat) : Int) = arrX x (k ⟨⟩ + 1) := (congrArg (fun z => (arrX x (k ⟨⟩)).set (64 - k ⟨⟩) z) d1).trans (arrX_set x (by omega))
        have b4 : (IntKind.wrap .i64 (((65 - k ⟨⟩ : Nat) : Int) - 1)).toNat = 64 - k ⟨⟩ := by rw [hi]; rfl
        have b5 : 64 - k ⟨⟩ < (arrX x (k ⟨⟩)).length := by rw [hlen]; omega
        have hi2 : IntKind.wrap .i64 (((65 - k ⟨⟩ : Nat) : Int) - 1) = ((65 - (k ⟨⟩ + 1) : Nat) : Int) := by rw [hi, show 65 - (k ⟨⟩ + 1) = 64 - k ⟨⟩ by omega]
        repeat' first
          | (refine Ob.mk ?_ ?_; (focus (first | with_reducible rfl | exact b1 | exact b2 | exact q1 | exact hi2 | (dsimp only [IE.val, NE.val, IE.nat]; simp only [b4, Nat.mul_one, Nat.zero_add]; first | exact b5 | exact v1) | decide | trace_state)); cbv)
          | (refine Next.mk (fun _ => k () + 1) hinv hmeas ?_; cbv)
  · cases hs
theorem fn160 : FnOk Tryz.prog 160 Tryz.f160 (bodyOf Tryz.f160) := ⟨Tryz.func160, rfl, by rfl⟩
def s160 : Spec := hspec fun args H => match args, H with
  | [.c (.i .u64 (.x u)), .c (.i .i64 (.x b))], [] => some (.c (.s fun _ => hexM (u ()).toNat), [], [fun _ => b () = 16 ∧ 0 ≤ u () ∧ u () < 4294967296])
  | _, _ => none
def E160 : Env := fun g => envGetL [(176, ⟨true, s176, none⟩)] g
theorem E160ok : EnvOk Tryz.prog E160 := envOk_cons ok176 (envOk_nil _)
set_option maxRecDepth 100000 in
set_option maxHeartbeats 1000000 in
theorem ok160 : Ok Tryz.prog 160 (s160) := ok_of_wpaH (E := E160) mixed tts E160ok fn160 fun args H v H' o hs ho => by
  split at hs
  · rename_i u b
    cases hs
    obtain ⟨hb, hu⟩ := ho.one
    have hb : b ⟨⟩ = 16 := hb
    have c2 : (b ⟨⟩ == 10) = false := by rw [hb]; decide
    refine ⟨_, HLe.refl _, ?_⟩
    cbv
    refine Br.f c2 ?_
    cbv
    repeat' (refine Ob.mk ?_ ?_; (focus (first | exact ⟨hb, rfl, rfl, hu⟩ | exact rfl)); cbv)
  · cases hs
theorem fn139 : FnOk Tryz.prog 139 Tryz.f139 (bodyOf Tryz.f139) := ⟨Tryz.func139, rfl, by rfl⟩
def s139 : Spec := hspec fun args H => match args, H with
  | [.c (.i .u64 (.x u)), .c (.i .i64 (.x b))], [] => some (.c (.s fun _ => hexM (u ()).toNat), [], [fun _ => b () = 16 ∧ 0 ≤ u () ∧ u () < 4294967296])
  | _, _ => none
def E139 : Env := fun g => envGetL [(160, ⟨true, s160, none⟩)] g
theorem E139ok : EnvOk Tryz.prog E139 := envOk_cons ok160 (envOk_nil _)
set_option maxRecDepth 100000 in
set_option maxHeartbeats 1000000 in
theorem ok139 : Ok Tryz.prog 139 (s139) := ok_of_wpaH (E := E139) mixed tts E139ok fn139 fun args H v H' o hs ho => by
  split at hs
  · rename_i u b
    cases hs
    have hb := ho.one
    refine ⟨_, HLe.refl _, ?_⟩
    cbv
    repeat' (refine Ob.mk ?_ ?_; (focus (first | exact hb | exact rfl)); cbv)
  · cases hs
end
end Go.Proofs.YteifneielgnniaaGreatDoor.Sh
end
section
namespace Go.Proofs.YteifneielgnniaaGreatDoor.Sh
open Go Go.Proofs
/-! ## zeros ahead of the least digits: eight digits -/
def b8 (n : Int) : UInt8 := UInt8.ofNat n.toNat
theorem push_eq : ∀ (l : List Int) (r : ByteArray), l.foldl (fun r n => r.push (UInt8.ofNat n.toNat)) r = ⟨r.data ++ (l.map b8).toArray⟩
  | [], r => by simp
  | n :: l, r => by
    rw [List.foldl_cons, push_eq l]
    simp [ByteArray.push, b8]
theorem bytesT_eq (l : List Int) : bytesT l = ⟨(l.map b8).toArray⟩ := by
  unfold bytesT
  rw [push_eq]
  have he : ByteArray.empty.data = #[] := rfl
  rw [he]
  simp
theorem mk_append (a b : List UInt8) : (⟨a.toArray⟩ : ByteArray) ++ ⟨b.toArray⟩ = ⟨(a ++ b).toArray⟩ := by
  have : ((⟨a.toArray⟩ : ByteArray) ++ ⟨b.toArray⟩).data = (a ++ b).toArray := by
    rw [ByteArray.data_append]; simp
  calc (⟨a.toArray⟩ : ByteArray) ++ ⟨b.toArray⟩ = ⟨((⟨a.toArray⟩ : ByteArray) ++ ⟨b.toArray⟩).data⟩ := rfl
    _ = _ := by rw [this]
theorem bytesT_append (a b : List Int) : bytesT a ++ bytesT b = bytesT (a ++ b) := by
  rw [bytesT_eq, bytesT_eq, bytesT_eq, mk_append, List.map_append]
theorem hexTo_8 (x : Nat) : hexTo x 8 = digL x 8 := rfl
theorem sh_1 (x j : Nat) : sh x (j + 1) = sh (x / 16) j := by
  unfold sh; rw [Nat.pow_succ, Nat.mul_comm, Nat.div_div_eq_div_mul]
theorem sh_nd : ∀ (n x : Nat), x < n → sh x (nd x) = 0
  | 0, x, h => by omega
  | n + 1, x, h => by
    by_cases h16 : x < 16
    · rw [nd_lt h16, ← sh_s, sh_0]; omega
    · rw [nd_ge h16, sh_1]
      exact sh_nd n (x / 16) (by omega)
theorem nd_le : ∀ (k x : Nat), x < 16 ^ (k + 1) → nd x ≤ k + 1
  | 0, x, h => by rw [nd_lt (by simpa using h)]; omega
  | k + 1, x, h => by
    by_cases h16 : x < 16
    · rw [nd_lt h16]; omega
    · rw [nd_ge h16]
      have : x / 16 < 16 ^ (k + 1) := Nat.div_lt_of_lt_mul (by rw [Nat.pow_succ] at h; omega)
      have := nd_le k (x / 16) this
      omega
theorem nd_8 {x : Nat} (h : x < 4294967296) : nd x ≤ 8 := nd_le 7 x (by simpa using h)
theorem sh_zero {x n : Nat} (h : sh x n = 0) : ∀ m, sh x (n + m) = 0
  | 0 => h
  | m + 1 => by rw [← Nat.add_assoc, ← sh_s, sh_zero h m]
theorem digL_zero {x n : Nat} (h : sh x n = 0) : ∀ m, digL x (n + m) = List.replicate m 48 ++ digL x n
  | 0 => by simp
  | m + 1 => by
    rw [← Nat.add_assoc]
    show hxI (sh x (n + m) % 16) :: digL x (n + m) = _
    rw [sh_zero h m, digL_zero h m, List.replicate_succ]
    rfl
def zerosT (m : Nat) : ByteArray := ⟨(List.replicate m (48 : UInt8)).toArray⟩
theorem zeros_eq (m : Nat) : zerosT m = bytesT (List.replicate m 48) := by
  rw [bytesT_eq, List.map_replicate]; rfl
theorem pad {x : Nat} (h : x < 4294967296) : zerosT (8 - nd x) ++ hexM x = hexT x := by
  unfold hexM hexT
  rw [zeros_eq, bytesT_append, hexTo_8, ← digL_zero (sh_nd (x + 1) x (by omega)), show nd x + (8 - nd x) = 8 from by have := nd_8 h; omega]
theorem hexM_size (x : Nat) : (hexM x).size = nd x := by unfold hexM; rw [bytesT_size, digL_len]
end Go.Proofs.YteifneielgnniaaGreatDoor.Sh
end
section
namespace Go.Proofs.YteifneielgnniaaGreatDoor.Sh
open Go Go.Proofs Go.RowKit Go.Shelf
def Tryz.laysRepeat_ren : Go.Shelf.Ren := ⟨fun | 105 => 140 | 212 => 161 | 99 => 162 | 165 => 141 | 166 => 142 | 170 => 163 | 169 => 143 | 263 => 177 | 264 => 178 | 206 => 179 | 240 => 164 | 241 => 165 | 276 => 180 | 277 => 181 | n => n, fun | 9 => 9 | 3 => 3 | 4 => 4 | 20 => 20 | 0 => 0 | 46 => 140 | 109 => 162 | 5 => 5 | 72 => 146 | 76 => 150 | 51 => 127 | 146 => 179 | 53 => 120 | 148 => 181 | 70 => 144 | 37 => 22 | 75 => 149 | 127 => 166 | 164 => 183 | 80 => 152 | n => n, fun | n => n⟩
theorem Tryz.laysRepeat : Go.Proofs.Lays.n105 Tryz.prog Tryz.laysRepeat_ren := {
  mixed := by kernel_rfl
  f99 := Tryz.func162.trans (congrArg some (by kernel_rfl))
  f105 := Tryz.func140.trans (congrArg some (by kernel_rfl))
  f165 := Tryz.func141.trans (congrArg some (by kernel_rfl))
  f166 := Tryz.func142.trans (congrArg some (by kernel_rfl))
  f169 := Tryz.func143.trans (congrArg some (by kernel_rfl))
  f170 := Tryz.func163.trans (congrArg some (by kernel_rfl))
  f206 := Tryz.func179.trans (congrArg some (by kernel_rfl))
  f212 := Tryz.func161.trans (congrArg some (by kernel_rfl))
  f240 := Tryz.func164.trans (congrArg some (by kernel_rfl))
  f241 := Tryz.func165.trans (congrArg some (by kernel_rfl))
  f263 := Tryz.func177.trans (congrArg some (by kernel_rfl))
  f264 := Tryz.func178.trans (congrArg some (by kernel_rfl))
  f276 := Tryz.func180.trans (congrArg some (by kernel_rfl))
  f277 := Tryz.func181.trans (congrArg some (by kernel_rfl))
  t0 := Tryz.underlying0
  a0 := Tryz.isAgg0
  z0 := Tryz.sizeOf0
  v0 := Tryz.zeroValue0
  t3 := Tryz.underlying3
  a3 := Tryz.isAgg3
  z3 := Tryz.sizeOf3
  v3 := Tryz.zeroValue3
  t4 := Tryz.underlying4
  a4 := Tryz.isAgg4
  z4 := Tryz.sizeOf4
  v4 := Tryz.zeroValue4
  t5 := Tryz.underlying5
  a5 := Tryz.isAgg5
  z5 := Tryz.sizeOf5
  v5 := Tryz.zeroValue5
  t9 := Tryz.underlying9
  a9 := Tryz.isAgg9
  z9 := Tryz.sizeOf9
  v9 := Tryz.zeroValue9
  t20 := Tryz.underlying20
  a20 := Tryz.isAgg20
  z20 := Tryz.sizeOf20
  v20 := Tryz.zeroValue20
  t37 := Tryz.underlying22
  a37 := Tryz.isAgg22
  z37 := Tryz.sizeOf22
  v37 := Tryz.zeroValue22
  t46 := Tryz.underlying140
  a46 := Tryz.isAgg140
  z46 := Tryz.sizeOf140
  v46 := Tryz.zeroValue140
  t51 := Tryz.underlying127
  a51 := Tryz.isAgg127
  z51 := Tryz.sizeOf127
  v51 := Tryz.zeroValue127
  t53 := Tryz.underlying120
  a53 := Tryz.isAgg120
  z53 := Tryz.sizeOf120
  v53 := Tryz.zeroValue120
  t70 := Tryz.underlying144
  a70 := Tryz.isAgg144
  z70 := Tryz.sizeOf144
  v70 := Tryz.zeroValue144
  t72 := Tryz.underlying146
  a72 := Tryz.isAgg146
  z72 := Tryz.sizeOf146
  v72 := Tryz.zeroValue146
  t75 := Tryz.underlying149
  a75 := Tryz.isAgg149
  z75 := Tryz.sizeOf149
  v75 := Tryz.zeroValue149
  t76 := Tryz.underlying150
  a76 := Tryz.isAgg150
  z76 := Tryz.sizeOf150
  v76 := Tryz.zeroValue150
  t109 := Tryz.underlying162
  a109 := Tryz.isAgg162
  z109 := Tryz.sizeOf162
  v109 := Tryz.zeroValue162
  t127 := Tryz.underlying166
  a127 := Tryz.isAgg166
  z127 := Tryz.sizeOf166
  v127 := Tryz.zeroValue166
  t146 := Tryz.underlying179
  a146 := Tryz.isAgg179
  z146 := Tryz.sizeOf179
  v146 := Tryz.zeroValue179
  t148 := Tryz.underlying181
  a148 := Tryz.isAgg181
  z148 := Tryz.sizeOf181
  v148 := Tryz.zeroValue181
  t164 := Tryz.underlying183
  a164 := Tryz.isAgg183
  z164 := Tryz.sizeOf183
  v164 := Tryz.zeroValue183 }
theorem extra105 : Builder.Extra Tryz.prog Tryz.laysRepeat_ren := {
  sizeBuilder := by kernel_rfl
  liesBuilder := by kernel_rfl
  t5 := Tryz.laysRepeat.t5
  a5 := Tryz.laysRepeat.a5
  z5 := Tryz.laysRepeat.z5
  v5 := Tryz.laysRepeat.v5
  infoByte := by kernel_rfl
  cellsByte := by kernel_rfl
  sizeByte := by kernel_rfl
  neB5 := by decide }
theorem fRepeat : Tryz.laysRepeat_ren.f 105 = 140 := by kernel_rfl
theorem rep_calls (w : World) (m : Nat) (h : m ≤ 8) : Calls Tryz.prog 140 #[.string ({ data := #[48] } : ByteArray), .int .i64 (m : Int)] w fun e w' => e = .returned (.string (zerosT m)) ∧ Below w.heap.size w w' := by
  have h := Any.strings_Repeat Tryz.laysRepeat extra105 ⟨#[48]⟩ m w (by omega) (by show 1 * m ≤ _; omega)
  rw [fRepeat] at h
  refine h.mono fun e w' ⟨he, hw⟩ => ⟨?_, hw⟩
  rw [he]
  have e : Lib.repeatL (ByteArray.mk #[48]).data.toList m = List.replicate m 48 := by
    have := Lib.repeatL_replicate 48 1 m
    simpa using this
  rw [e]
  rfl
section
theorem fn140 : FnOk Tryz.prog 140 Tryz.f140 (bodyOf Tryz.f140) := ⟨Tryz.func140, rfl, by rfl⟩
theorem fr_of {w w' : World} (h : Below w.heap.size w w') : Fr nowhere w w' := ⟨h.os, h.tape, h.output, h.size, fun k hk _ => h.block k hk⟩
def s140 : Spec := fun args H => match args with
  | [.c (.s e), .c (.i .i64 c)] => some (.c (.s fun _ => zerosT c.val.toNat), H, [fun _ => e () = ({ data := #[48] } : ByteArray) ∧ 0 ≤ c.val ∧ c.val ≤ 8])
  | _ => none
theorem ok140 : Ok Tryz.prog 140 s140 := by
  intro args H v H' o hs ho μ W w vs hW hH hr
  unfold s140 at hs
  split at hs
  · rename_i e c
    cases hs
    match vs, hr with
    | [x, y], hr =>
      obtain ⟨hx, hy, _⟩ := hr
      obtain ⟨he, h0, h8⟩ := ho.one
      have hx : x = .string (e ()) := hx
      have hy : y = .int .i64 c.val := hy
      rw [he] at hx
      subst hx hy
      obtain ⟨m, hm⟩ : ∃ m : Nat, m = c.val.toNat := ⟨_, rfl⟩
      have hc : c.val = (m : Int) := by omega
      have hz : zerosT c.val.toNat = zerosT m := by rw [hm]
      have k := rep_calls w m (by omega)
      rw [← hc] at k
      exact .inl ⟨callFunc_run fn140 _ _, k.mono fun e' w' ⟨h1, h2⟩ => ⟨_, h1, μ, agree.refl _ _, Nat.le_refl _, hH.quiet (fr_of h2), by rw [hz]; rfl, (fr_of h2).mono fun _ _ h => h.elim⟩⟩
  · cases hs
end
section
theorem nanT : ({ data := #[55, 102, 99, 48, 48, 48, 48, 48] } : ByteArray) = hexT 2143289344 := by decide +kernel
attribute [local irreducible] hexT hexM zerosT
theorem fn115 : FnOk Tryz.prog 115 Tryz.f115 (bodyOf Tryz.f115) := ⟨Tryz.func115, rfl, by rfl⟩
def s115 : Spec := hspec fun args H => match args, H with
  | [.c (.f .f32 a)], [] => some (.c (.s fun _ => numT (a ())), [], [fun _ => a () < 4294967296])
  | _, _ => none
def E115 : Env := fun g => envGetL [(139, ⟨true, s139, none⟩), (117, ⟨true, s117, none⟩), (140, ⟨true, s140, none⟩)] g
theorem E115ok : EnvOk Tryz.prog E115 := envOk_cons ok139 (envOk_cons ok117 (envOk_cons ok140 (envOk_nil _)))
set_option maxRecDepth 100000 in
set_option maxHeartbeats 2000000 in
theorem ok115 : Ok Tryz.prog 115 (s115) := ok_of_wpaH (E := E115) mixed tts E115ok fn115 fun args H v H' o hs ho => by
  split at hs
  · rename_i a
    cases hs
    have ha : a ⟨⟩ < 4294967296 := ho.one
    refine ⟨_, HLe.refl _, ?_⟩
    cbv
    rcases bool_ft (isNan (a ⟨⟩)) with h | h
    · have hbx := bits_f h
      have hw : IntKind.wrap .u64 ((a ⟨⟩ : Nat) : Int) = ((a ⟨⟩ : Nat) : Int) := wrapU64 (Int.natCast_nonneg _) (by omega)
      have hn := nd_8 ha
      have e1 : 0 ≤ IntKind.wrap .u64 ((a ⟨⟩ : Nat) : Int) ∧ IntKind.wrap .u64 ((a ⟨⟩ : Nat) : Int) < 4294967296 := by rw [hw]; exact ⟨Int.natCast_nonneg _, by omega⟩
      have hm : hexM (IntKind.wrap .u64 ((a ⟨⟩ : Nat) : Int)).toNat = hexM (a ⟨⟩) := by rw [hw]; rfl
      have hc : IntKind.wrap .i64 (8 - (((hexM (IntKind.wrap .u64 ((a ⟨⟩ : Nat) : Int)).toNat).size : Nat) : Int)) = ((8 - nd (a ⟨⟩) : Nat) : Int) := by
        rw [hm, hexM_size, wrap64 (by omega) (by omega)]; omega
      have e2 : ({ data := #[48] } : ByteArray) = ({ data := #[48] } : ByteArray) ∧ 0 ≤ IntKind.wrap .i64 (8 - (((hexM (IntKind.wrap .u64 ((a ⟨⟩ : Nat) : Int)).toNat).size : Nat) : Int)) ∧ IntKind.wrap .i64 (8 - (((hexM (IntKind.wrap .u64 ((a ⟨⟩ : Nat) : Int)).toNat).size : Nat) : Int)) ≤ 8 := by
        rw [hc]; exact ⟨rfl, Int.natCast_nonneg _, by omega⟩
      have e3 : zerosT (IntKind.wrap .i64 (8 - (((hexM (IntKind.wrap .u64 ((a ⟨⟩ : Nat) : Int)).toNat).size : Nat) : Int))).toNat ++ hexM (IntKind.wrap .u64 ((a ⟨⟩ : Nat) : Int)).toNat = numT (a ⟨⟩) := by
        rw [hc, hm, Int.toNat_natCast, pad ha]; show _ = hexT (bitsX (a ⟨⟩)); rw [hbx]
      have e4 : (zerosT (IntKind.wrap .i64 (8 - (((hexM (IntKind.wrap .u64 ((a ⟨⟩ : Nat) : Int)).toNat).size : Nat) : Int))).toNat).size + (hexM (IntKind.wrap .u64 ((a ⟨⟩ : Nat) : Int)).toNat).size ≤ 9223372036854775807 := by
        have := hexT_size (bitsX (a ⟨⟩))
        rw [← ByteArray.size_append, e3]; show (hexT (bitsX (a ⟨⟩))).size ≤ _; rw [this]; decide
      refine Br.f h ?_
      cbv
      repeat' (refine Ob.mk ?_ ?_; (focus (first | with_reducible rfl | exact h | exact ⟨rfl, e1⟩ | exact e2 | exact e4 | exact e3)); cbv)
    · have e1 : ({ data := #[55, 102, 99, 48, 48, 48, 48, 48] } : ByteArray) = numT (a ⟨⟩) := by rw [nanT]; show _ = hexT (bitsX (a ⟨⟩)); rw [bits_t h]
      refine Br.t h ?_
      cbv
      repeat' (refine Ob.mk ?_ ?_; (focus (first | exact e1)); cbv)
  · cases hs
end
end Go.Proofs.YteifneielgnniaaGreatDoor.Sh
end
section
namespace Go.Proofs.YteifneielgnniaaGreatDoor.Sh
open Go Go.Proofs Go.RowKit Go.Shelf
def Tryz.laysJoin_ren : Go.Shelf.Ren := ⟨fun | 156 => 116 | 165 => 141 | 166 => 142 | 169 => 143 | 240 => 164 | 241 => 165 | 276 => 180 | 277 => 181 | n => n, fun | 31 => 103 | 9 => 9 | 3 => 3 | 4 => 4 | 0 => 0 | 20 => 20 | 72 => 146 | 76 => 150 | 70 => 144 | 37 => 22 | 75 => 149 | 127 => 166 | 164 => 183 | 5 => 5 | 80 => 152 | n => n, fun | n => n⟩
theorem Tryz.laysJoin : Go.Proofs.Lays.n156 Tryz.prog Tryz.laysJoin_ren := {
  mixed := by kernel_rfl
  f156 := Tryz.func116.trans (congrArg some (by kernel_rfl))
  f165 := Tryz.func141.trans (congrArg some (by kernel_rfl))
  f166 := Tryz.func142.trans (congrArg some (by kernel_rfl))
  f169 := Tryz.func143.trans (congrArg some (by kernel_rfl))
  f240 := Tryz.func164.trans (congrArg some (by kernel_rfl))
  f241 := Tryz.func165.trans (congrArg some (by kernel_rfl))
  f276 := Tryz.func180.trans (congrArg some (by kernel_rfl))
  f277 := Tryz.func181.trans (congrArg some (by kernel_rfl))
  t0 := Tryz.underlying0
  a0 := Tryz.isAgg0
  z0 := Tryz.sizeOf0
  v0 := Tryz.zeroValue0
  t3 := Tryz.underlying3
  a3 := Tryz.isAgg3
  z3 := Tryz.sizeOf3
  v3 := Tryz.zeroValue3
  t4 := Tryz.underlying4
  a4 := Tryz.isAgg4
  z4 := Tryz.sizeOf4
  v4 := Tryz.zeroValue4
  t9 := Tryz.underlying9
  a9 := Tryz.isAgg9
  z9 := Tryz.sizeOf9
  v9 := Tryz.zeroValue9
  t20 := Tryz.underlying20
  a20 := Tryz.isAgg20
  z20 := Tryz.sizeOf20
  v20 := Tryz.zeroValue20
  t31 := Tryz.underlying103
  a31 := Tryz.isAgg103
  z31 := Tryz.sizeOf103
  v31 := Tryz.zeroValue103
  t37 := Tryz.underlying22
  a37 := Tryz.isAgg22
  z37 := Tryz.sizeOf22
  v37 := Tryz.zeroValue22
  t70 := Tryz.underlying144
  a70 := Tryz.isAgg144
  z70 := Tryz.sizeOf144
  v70 := Tryz.zeroValue144
  t72 := Tryz.underlying146
  a72 := Tryz.isAgg146
  z72 := Tryz.sizeOf146
  v72 := Tryz.zeroValue146
  t75 := Tryz.underlying149
  a75 := Tryz.isAgg149
  z75 := Tryz.sizeOf149
  v75 := Tryz.zeroValue149
  t76 := Tryz.underlying150
  a76 := Tryz.isAgg150
  z76 := Tryz.sizeOf150
  v76 := Tryz.zeroValue150
  t127 := Tryz.underlying166
  a127 := Tryz.isAgg166
  z127 := Tryz.sizeOf166
  v127 := Tryz.zeroValue166
  t164 := Tryz.underlying183
  a164 := Tryz.isAgg183
  z164 := Tryz.sizeOf183
  v164 := Tryz.zeroValue183 }
theorem extra156 : Builder.Extra Tryz.prog Tryz.laysJoin_ren := {
  sizeBuilder := by kernel_rfl
  liesBuilder := by kernel_rfl
  t5 := by kernel_rfl
  a5 := by have := Tryz.laysRepeat.a5; exact this
  z5 := by have := Tryz.laysRepeat.z5; exact this
  v5 := by have := Tryz.laysRepeat.v5; exact this
  infoByte := by kernel_rfl
  cellsByte := by kernel_rfl
  sizeByte := by kernel_rfl
  neB5 := by decide }
theorem fJoin : Tryz.laysJoin_ren.f 156 = 116 := by kernel_rfl
section
theorem fn116 : FnOk Tryz.prog 116 Tryz.f116 (bodyOf Tryz.f116) := ⟨Tryz.func116, rfl, by rfl⟩
end
end Go.Proofs.YteifneielgnniaaGreatDoor.Sh
end
section
namespace Go.Proofs.YteifneielgnniaaGreatDoor.Sh
open Go Go.Proofs
def nrmL : V → V
  | .c (.b e) => .c (.b (.x fun _ => e.val))
  | .c (.i k e) => .c (.i k (.x fun _ => e.val))
  | .c (.p b o) => .c (.p b (.x fun _ => o.val))
  | v => v
theorem nrmL_ok {μ : Nat → Loc} {N : Nat} {x : V} {v : Value} (h : relV μ N x v) : relV μ N (nrmL x) v := by
  unfold nrmL
  split <;> exact h
theorem start_okL {μ : Nat → Loc} {W : Nat → Prop} {w : World} {args : List V} {H H1 : Heap} {vs : List Value} (hW : Wide W w) (hH : HRel μ W H w) (hr : relL (relV μ H.length) args vs) (hl : HLe H H1) {n : Nat} :
    St μ H.length W w (args.map nrmL ++ List.replicate (n - args.length) .n) H1 { tmps := vs.toArray ++ Array.replicate (n - vs.toArray.size) undef, defers := [] } w := by
  have hlen : H.length = H1.length := relL.len hl
  refine ⟨μ, agree.refl _ _, Nat.le_of_eq hlen, ?_, rfl, hH.le hl, Fr.refl _ _, hW⟩
  unfold relA
  have e : (vs.toArray ++ Array.replicate (n - vs.toArray.size) undef).toList = vs ++ List.replicate (n - args.length) undef := by
    simp [hr.len]
  show relL _ _ (vs.toArray ++ Array.replicate (n - vs.toArray.size) undef).toList
  rw [e, ← hlen]
  have h1 := hr.map (T := relV μ H.length) nrmL id fun a b _ hr => nrmL_ok hr
  rw [List.map_id] at h1
  exact h1.append (relL.replicate (R := relV μ H.length) (a := V.n) (b := undef) rfl _)
/-- a spec that does not see whole numbers and places written out, but sees how long a row is -/
def lspec (s : Spec) : Spec := fun args H => s (args.map nrmL) H
theorem ok_of_wpaL {P : Program} {tt : TT} {E : Env} (hm : P.follows .mixedOrders = true) (htt : TtOk P tt) (hE : EnvOk P E) {g : Nat} {fn : Func} {c : Code} (hf : FnOk P g fn c) {s : Spec}
    (h : ∀ args H v H' o, s args H = some (v, H', o) → holds o →
      ∃ H1, HLe H H1 ∧ wpa ⟨tt, E, H.length⟩ c (finE tt fn.results.toList H.length v H') (args ++ List.replicate (fn.ntmps - args.length) .n) H1) : Ok P g (lspec s) := by
  intro args H v H' o hs ho μ W w vs hW hH hr
  refine .inl ⟨callFunc_run hf _ _, calls_of_wp hf.at_ hf.body ?_⟩
  obtain ⟨H1, hl, hwp⟩ := h _ H v H' o hs ho
  rw [List.length_map] at hwp
  exact wpa_ok (c := ⟨tt, E, H.length⟩) hm htt hE hwp (start_okL hW hH hr hl) (fin_post htt)
attribute [local irreducible] hexT bitsX
theorem fn57 : FnOk Tryz.prog 57 Tryz.f57 (bodyOf Tryz.f57) := ⟨Tryz.func57, rfl, by rfl⟩
end Go.Proofs.YteifneielgnniaaGreatDoor.Sh
end
