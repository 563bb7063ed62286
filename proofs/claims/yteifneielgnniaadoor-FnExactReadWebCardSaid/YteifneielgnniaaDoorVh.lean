/- The program reads lines. No condition. -/
import Derived.Test.YteifneielgnniaaDoorVe
set_option linter.unusedVariables false
set_option linter.unusedSimpArgs false
set_option linter.unusedSectionVars false
section
namespace Go.Proofs.YteifneielgnniaaDoor.Sh
open Go Go.Proofs
def sLF (p : ByteArray → Prop) : Spec := hspec fun args H => match args, H with
  | [.c (.s t), .c (.i .i64 (.x m)), .c (.i .i64 (.x c))], [] => some (.t [.c .sn, .c (.b (.l false))], [], [fun _ => p (t ()) ∧ (t ()).size ≤ 1048576 ∧ m () = 3 ∧ c () = 9])
  | _, _ => none
theorem okLF_of {P : Program} {g : Nat} {p : ByteArray → Prop} (h : ∀ t, p t → t.size ≤ 1048576 → ∃ q, q t ∧ Ok P g (sLF q)) : Ok P g (sLF p) := by
  intro args H v H' o hs ho μ W w vs hW hH hr
  unfold sLF hspec at hs
  split at hs
  · rename_i t m c h1 h2
    cases hs
    obtain ⟨hp, hz, hm, hc⟩ := ho.one
    obtain ⟨q, hq, k⟩ := h _ hp hz
    refine k args H _ _ [fun _ => q (t ()) ∧ (t ()).size ≤ 1048576 ∧ m () = 3 ∧ c () = 9] ?_ ?_ μ W w vs hW hH hr
    · unfold sLF hspec; rw [h1, h2]
    · intro r hr'
      simp only [List.mem_cons, List.not_mem_nil, or_false] at hr'
      subst hr'
      exact ⟨hq, hz, hm, hc⟩
  · cases hs
def sLT0 (p : ByteArray → Prop) : Spec := hspec fun args H => match args, H with
  | [.c (.s t), .c (.i .i64 (.x m)), .c (.i .i64 (.x c))], [] => some (.t [.c (.sl 0 (.l 0) (.l 0)), .c (.b (.x fun _ => tl (t ())))], [some ⟨true, 1, .lit []⟩], [fun _ => p (t ()) ∧ (t ()).size ≤ 1048576 ∧ m () = 3 ∧ c () = 9])
  | _, _ => none
def sLT1 (p : ByteArray → Prop) : Spec := hspec fun args H => match args, H with
  | [.c (.s t), .c (.i .i64 (.x m)), .c (.i .i64 (.x c))], [] => some (.t [.c (.sl 0 (.l 0) (.l 1)), .c (.b (.x fun _ => tl (t ())))], [some ⟨true, 1, .lit [.sl 1 (.l 0) (.x fun _ => 3)]⟩, some ⟨true, 1, .fl fun _ => numsOf (ln (t ()) 0)⟩], [fun _ => p (t ()) ∧ (t ()).size ≤ 1048576 ∧ m () = 3 ∧ c () = 9])
  | _, _ => none
def sLT2 (p : ByteArray → Prop) : Spec := hspec fun args H => match args, H with
  | [.c (.s t), .c (.i .i64 (.x m)), .c (.i .i64 (.x c))], [] => some (.t [.c (.sl 0 (.l 0) (.l 2)), .c (.b (.x fun _ => tl (t ())))], [some ⟨true, 1, .lit [.sl 1 (.l 0) (.x fun _ => 3), .sl 2 (.l 0) (.x fun _ => 3)]⟩, some ⟨true, 1, .fl fun _ => numsOf (ln (t ()) 0)⟩, some ⟨true, 1, .fl fun _ => numsOf (ln (t ()) 1)⟩], [fun _ => p (t ()) ∧ (t ()).size ≤ 1048576 ∧ m () = 3 ∧ c () = 9])
  | _, _ => none
def sLT3 (p : ByteArray → Prop) : Spec := hspec fun args H => match args, H with
  | [.c (.s t), .c (.i .i64 (.x m)), .c (.i .i64 (.x c))], [] => some (.t [.c (.sl 0 (.l 0) (.l 3)), .c (.b (.x fun _ => tl (t ())))], [some ⟨true, 1, .lit [.sl 1 (.l 0) (.x fun _ => 3), .sl 2 (.l 0) (.x fun _ => 3), .sl 3 (.l 0) (.x fun _ => 3)]⟩, some ⟨true, 1, .fl fun _ => numsOf (ln (t ()) 0)⟩, some ⟨true, 1, .fl fun _ => numsOf (ln (t ()) 1)⟩, some ⟨true, 1, .fl fun _ => numsOf (ln (t ()) 2)⟩], [fun _ => p (t ()) ∧ (t ()).size ≤ 1048576 ∧ m () = 3 ∧ c () = 9])
  | _, _ => none
def sLT4 (p : ByteArray → Prop) : Spec := hspec fun args H => match args, H with
  | [.c (.s t), .c (.i .i64 (.x m)), .c (.i .i64 (.x c))], [] => some (.t [.c (.sl 0 (.l 0) (.l 4)), .c (.b (.x fun _ => tl (t ())))], [some ⟨true, 1, .lit [.sl 1 (.l 0) (.x fun _ => 3), .sl 2 (.l 0) (.x fun _ => 3), .sl 3 (.l 0) (.x fun _ => 3), .sl 4 (.l 0) (.x fun _ => 3)]⟩, some ⟨true, 1, .fl fun _ => numsOf (ln (t ()) 0)⟩, some ⟨true, 1, .fl fun _ => numsOf (ln (t ()) 1)⟩, some ⟨true, 1, .fl fun _ => numsOf (ln (t ()) 2)⟩, some ⟨true, 1, .fl fun _ => numsOf (ln (t ()) 3)⟩], [fun _ => p (t ()) ∧ (t ()).size ≤ 1048576 ∧ m () = 3 ∧ c () = 9])
  | _, _ => none
def sLT5 (p : ByteArray → Prop) : Spec := hspec fun args H => match args, H with
  | [.c (.s t), .c (.i .i64 (.x m)), .c (.i .i64 (.x c))], [] => some (.t [.c (.sl 0 (.l 0) (.l 5)), .c (.b (.x fun _ => tl (t ())))], [some ⟨true, 1, .lit [.sl 1 (.l 0) (.x fun _ => 3), .sl 2 (.l 0) (.x fun _ => 3), .sl 3 (.l 0) (.x fun _ => 3), .sl 4 (.l 0) (.x fun _ => 3), .sl 5 (.l 0) (.x fun _ => 3)]⟩, some ⟨true, 1, .fl fun _ => numsOf (ln (t ()) 0)⟩, some ⟨true, 1, .fl fun _ => numsOf (ln (t ()) 1)⟩, some ⟨true, 1, .fl fun _ => numsOf (ln (t ()) 2)⟩, some ⟨true, 1, .fl fun _ => numsOf (ln (t ()) 3)⟩, some ⟨true, 1, .fl fun _ => numsOf (ln (t ()) 4)⟩], [fun _ => p (t ()) ∧ (t ()).size ≤ 1048576 ∧ m () = 3 ∧ c () = 9])
  | _, _ => none
def sLT6 (p : ByteArray → Prop) : Spec := hspec fun args H => match args, H with
  | [.c (.s t), .c (.i .i64 (.x m)), .c (.i .i64 (.x c))], [] => some (.t [.c (.sl 0 (.l 0) (.l 6)), .c (.b (.x fun _ => tl (t ())))], [some ⟨true, 1, .lit [.sl 1 (.l 0) (.x fun _ => 3), .sl 2 (.l 0) (.x fun _ => 3), .sl 3 (.l 0) (.x fun _ => 3), .sl 4 (.l 0) (.x fun _ => 3), .sl 5 (.l 0) (.x fun _ => 3), .sl 6 (.l 0) (.x fun _ => 3)]⟩, some ⟨true, 1, .fl fun _ => numsOf (ln (t ()) 0)⟩, some ⟨true, 1, .fl fun _ => numsOf (ln (t ()) 1)⟩, some ⟨true, 1, .fl fun _ => numsOf (ln (t ()) 2)⟩, some ⟨true, 1, .fl fun _ => numsOf (ln (t ()) 3)⟩, some ⟨true, 1, .fl fun _ => numsOf (ln (t ()) 4)⟩, some ⟨true, 1, .fl fun _ => numsOf (ln (t ()) 5)⟩], [fun _ => p (t ()) ∧ (t ()).size ≤ 1048576 ∧ m () = 3 ∧ c () = 9])
  | _, _ => none
def sLT7 (p : ByteArray → Prop) : Spec := hspec fun args H => match args, H with
  | [.c (.s t), .c (.i .i64 (.x m)), .c (.i .i64 (.x c))], [] => some (.t [.c (.sl 0 (.l 0) (.l 7)), .c (.b (.x fun _ => tl (t ())))], [some ⟨true, 1, .lit [.sl 1 (.l 0) (.x fun _ => 3), .sl 2 (.l 0) (.x fun _ => 3), .sl 3 (.l 0) (.x fun _ => 3), .sl 4 (.l 0) (.x fun _ => 3), .sl 5 (.l 0) (.x fun _ => 3), .sl 6 (.l 0) (.x fun _ => 3), .sl 7 (.l 0) (.x fun _ => 3)]⟩, some ⟨true, 1, .fl fun _ => numsOf (ln (t ()) 0)⟩, some ⟨true, 1, .fl fun _ => numsOf (ln (t ()) 1)⟩, some ⟨true, 1, .fl fun _ => numsOf (ln (t ()) 2)⟩, some ⟨true, 1, .fl fun _ => numsOf (ln (t ()) 3)⟩, some ⟨true, 1, .fl fun _ => numsOf (ln (t ()) 4)⟩, some ⟨true, 1, .fl fun _ => numsOf (ln (t ()) 5)⟩, some ⟨true, 1, .fl fun _ => numsOf (ln (t ()) 6)⟩], [fun _ => p (t ()) ∧ (t ()).size ≤ 1048576 ∧ m () = 3 ∧ c () = 9])
  | _, _ => none
def sLT8 (p : ByteArray → Prop) : Spec := hspec fun args H => match args, H with
  | [.c (.s t), .c (.i .i64 (.x m)), .c (.i .i64 (.x c))], [] => some (.t [.c (.sl 0 (.l 0) (.l 8)), .c (.b (.x fun _ => tl (t ())))], [some ⟨true, 1, .lit [.sl 1 (.l 0) (.x fun _ => 3), .sl 2 (.l 0) (.x fun _ => 3), .sl 3 (.l 0) (.x fun _ => 3), .sl 4 (.l 0) (.x fun _ => 3), .sl 5 (.l 0) (.x fun _ => 3), .sl 6 (.l 0) (.x fun _ => 3), .sl 7 (.l 0) (.x fun _ => 3), .sl 8 (.l 0) (.x fun _ => 3)]⟩, some ⟨true, 1, .fl fun _ => numsOf (ln (t ()) 0)⟩, some ⟨true, 1, .fl fun _ => numsOf (ln (t ()) 1)⟩, some ⟨true, 1, .fl fun _ => numsOf (ln (t ()) 2)⟩, some ⟨true, 1, .fl fun _ => numsOf (ln (t ()) 3)⟩, some ⟨true, 1, .fl fun _ => numsOf (ln (t ()) 4)⟩, some ⟨true, 1, .fl fun _ => numsOf (ln (t ()) 5)⟩, some ⟨true, 1, .fl fun _ => numsOf (ln (t ()) 6)⟩, some ⟨true, 1, .fl fun _ => numsOf (ln (t ()) 7)⟩], [fun _ => p (t ()) ∧ (t ()).size ≤ 1048576 ∧ m () = 3 ∧ c () = 9])
  | _, _ => none
def sLT9 (p : ByteArray → Prop) : Spec := hspec fun args H => match args, H with
  | [.c (.s t), .c (.i .i64 (.x m)), .c (.i .i64 (.x c))], [] => some (.t [.c (.sl 0 (.l 0) (.l 9)), .c (.b (.x fun _ => tl (t ())))], [some ⟨true, 1, .lit [.sl 1 (.l 0) (.x fun _ => 3), .sl 2 (.l 0) (.x fun _ => 3), .sl 3 (.l 0) (.x fun _ => 3), .sl 4 (.l 0) (.x fun _ => 3), .sl 5 (.l 0) (.x fun _ => 3), .sl 6 (.l 0) (.x fun _ => 3), .sl 7 (.l 0) (.x fun _ => 3), .sl 8 (.l 0) (.x fun _ => 3), .sl 9 (.l 0) (.x fun _ => 3)]⟩, some ⟨true, 1, .fl fun _ => numsOf (ln (t ()) 0)⟩, some ⟨true, 1, .fl fun _ => numsOf (ln (t ()) 1)⟩, some ⟨true, 1, .fl fun _ => numsOf (ln (t ()) 2)⟩, some ⟨true, 1, .fl fun _ => numsOf (ln (t ()) 3)⟩, some ⟨true, 1, .fl fun _ => numsOf (ln (t ()) 4)⟩, some ⟨true, 1, .fl fun _ => numsOf (ln (t ()) 5)⟩, some ⟨true, 1, .fl fun _ => numsOf (ln (t ()) 6)⟩, some ⟨true, 1, .fl fun _ => numsOf (ln (t ()) 7)⟩, some ⟨true, 1, .fl fun _ => numsOf (ln (t ()) 8)⟩], [fun _ => p (t ()) ∧ (t ()).size ≤ 1048576 ∧ m () = 3 ∧ c () = 9])
  | _, _ => none
theorem fn21 : FnOk Tryd.prog 21 Tryd.f21 (bodyOf Tryd.f21) := ⟨Tryd.func21, rfl, by rfl⟩
def E21 : Env := fun g => envGetL [(27, ⟨true, s27 10, none⟩), (16, ⟨true, sNo, some (s16T 3, s16F 3)⟩)] g
theorem E21ok : EnvOk Tryd.prog E21 := envOk_cons (ok27 10) (envOk_alt (ok16T 3) (ok16F 3) (envOk_nil _))
end Go.Proofs.YteifneielgnniaaDoor.Sh
end
section
namespace Go.Proofs.YteifneielgnniaaDoor.Sh
open Go Go.Proofs
attribute [local irreducible] wds tx rn rnC rnOk nrOk v3a v3b v3c wAt n3 webOk spL tl nl wOk
set_option maxRecDepth 100000 in
set_option maxHeartbeats 8000000 in
theorem ok21X : Ok Tryd.prog 21 (sLF fun t => 243 < t.size) := ok_of_wpaH (E := E21) mixed tts E21ok fn21 fun args H v H' o hs ho => by
  split at hs
  · rename_i t m c
    cases hs
    have hsz : (t ⟨⟩).size ≤ 1048576 := ho.one.2.1
    have hm : m ⟨⟩ = 3 := ho.one.2.2.1
    have hc : c ⟨⟩ = 9 := ho.one.2.2.2
    have h27 : IntKind.wrap .i64 (IntKind.wrap .i64 (9 * m ⟨⟩) * c ⟨⟩) = 243 := by rw [hm, hc]; decide
    have h243 : 243 < (t ⟨⟩).size := ho.one.1
    have t0 : ltB (IntKind.wrap .i64 (IntKind.wrap .i64 (9 * m ⟨⟩) * c ⟨⟩)) (((t ⟨⟩).size : Nat) : Int) = true := by rw [h27, ltB_iff]; omega
    refine ⟨_, HLe.refl _, ?_⟩
    cbv
    repeat' first | (refine Ob.mk ?_ ?_; (focus (exact rfl)); cbv) | (refine Br.t t0 ?_; cbv)
  · cases hs
set_option maxRecDepth 100000 in
set_option maxHeartbeats 8000000 in
theorem ok21B0 : Ok Tryd.prog 21 (sLF fun t => t.size ≤ 243 ∧ 0 < nl t ∧ gdTo t 0 = true ∧ gd t 0 = false) := ok_of_wpaH (E := E21) mixed tts E21ok fn21 fun args H v H' o hs ho => by
  split at hs
  · rename_i t m c
    cases hs
    have hsz : (t ⟨⟩).size ≤ 1048576 := ho.one.2.1
    have hm : m ⟨⟩ = 3 := ho.one.2.2.1
    have hc : c ⟨⟩ = 9 := ho.one.2.2.2
    have h27 : IntKind.wrap .i64 (IntKind.wrap .i64 (9 * m ⟨⟩) * c ⟨⟩) = 243 := by rw [hm, hc]; decide
    have hsp : ({ data := #[10] } : ByteArray) = ({ data := #[10] } : ByteArray) ∧ (t ⟨⟩).size < 4294967281 := ⟨rfl, by omega⟩
    have hpos := wds_pos 10 (t ⟨⟩)
    have hle := wds_le 10 (t ⟨⟩)
    have hwr : (IntKind.wrap .i64 (((((wds 10 (t ⟨⟩)).length : Nat)) : Int) - 1)) = ((nl (t ⟨⟩) : Nat) : Int) := by rw [wrap64 (by omega) (by omega)]; unfold nl; omega
    have hp : 0 + (IntKind.wrap .i64 (((((wds 10 (t ⟨⟩)).length : Nat)) : Int) - 1)).toNat * 1 = nl (t ⟨⟩) := by rw [hwr, Int.toNat_natCast]; omega
    have hsl : (0 : Int) ≤ 0 ∧ 0 ≤ (IntKind.wrap .i64 (((((wds 10 (t ⟨⟩)).length : Nat)) : Int) - 1)) ∧ (IntKind.wrap .i64 (((((wds 10 (t ⟨⟩)).length : Nat)) : Int) - 1)) ≤ ((((wds 10 (t ⟨⟩)).length : Nat)) : Int) := by rw [hwr]; unfold nl; omega
    have hnl : nl (t ⟨⟩) = (wds 10 (t ⟨⟩)).length - 1 := by unfold nl; rfl
    have h243 : (t ⟨⟩).size ≤ 243 := ho.one.1.1
    have hn : 0 < nl (t ⟨⟩) := ho.one.1.2.1
    have hg : gdTo (t ⟨⟩) 0 = true := ho.one.1.2.2.1
    have hb : gd (t ⟨⟩) 0 = false := ho.one.1.2.2.2
    have t0 : ltB (IntKind.wrap .i64 (IntKind.wrap .i64 (9 * m ⟨⟩) * c ⟨⟩)) (((t ⟨⟩).size : Nat) : Int) = false := by rw [h27, ltB_no]; omega
    have hln : ((IntKind.wrap .i64 (((((wds 10 (t ⟨⟩)).length : Nat)) : Int) - 1)).toNat - 0) = nl (t ⟨⟩) := by rw [hwr, Int.toNat_natCast]; omega
    have b0 : ltB 0 ((((IntKind.wrap .i64 (((((wds 10 (t ⟨⟩)).length : Nat)) : Int) - 1)).toNat - 0) : Nat) : Int) = true := by rw [hln, ltB_iff]; omega
    have x0 : (0 : Int) ≤ 0 ∧ (0 : Int) < ((((IntKind.wrap .i64 (((((wds 10 (t ⟨⟩)).length : Nat)) : Int) - 1)).toNat - 0) : Nat) : Int) := by rw [hln]; exact ⟨by omega, by omega⟩
    have y0 : 0 < ((wds 10 (t ⟨⟩)).map tx).length := by rw [List.length_map]; omega
    have z0 : m ⟨⟩ = ((3 : Nat) : Int) ∧ (((wds 10 (t ⟨⟩)).map tx).getD 0 ByteArray.empty).size ≤ 1048576 ∧ 3 ≤ 3 := ⟨hm, ln_size (t ⟨⟩) 0 hsz, by decide⟩
    have g0 : nrOk 3 (((wds 10 (t ⟨⟩)).map tx).getD 0 ByteArray.empty) = false := show gd (t ⟨⟩) 0 = false from hb
    refine ⟨_, HLe.refl _, ?_⟩
    cbv
    repeat' first | (refine Ob.mk ?_ ?_; (focus (first | exact hsp | exact hsl | exact x0 | exact y0 | exact z0 | exact g0 | exact rfl)); cbv) | (refine Br.f t0 ?_; cbv) | (refine Br.t b0 ?_; cbv) | (refine alt_f g0 ?_; cbv) | (refine Loop.mk 70 ?_; cbv) | (refine Gen.same ?_; cbv)
  · cases hs
set_option maxRecDepth 100000 in
set_option maxHeartbeats 8000000 in
theorem ok21B1 : Ok Tryd.prog 21 (sLF fun t => t.size ≤ 243 ∧ 1 < nl t ∧ gdTo t 1 = true ∧ gd t 1 = false) := ok_of_wpaH (E := E21) mixed tts E21ok fn21 fun args H v H' o hs ho => by
  split at hs
  · rename_i t m c
    cases hs
    have hsz : (t ⟨⟩).size ≤ 1048576 := ho.one.2.1
    have hm : m ⟨⟩ = 3 := ho.one.2.2.1
    have hc : c ⟨⟩ = 9 := ho.one.2.2.2
    have h27 : IntKind.wrap .i64 (IntKind.wrap .i64 (9 * m ⟨⟩) * c ⟨⟩) = 243 := by rw [hm, hc]; decide
    have hsp : ({ data := #[10] } : ByteArray) = ({ data := #[10] } : ByteArray) ∧ (t ⟨⟩).size < 4294967281 := ⟨rfl, by omega⟩
    have hpos := wds_pos 10 (t ⟨⟩)
    have hle := wds_le 10 (t ⟨⟩)
    have hwr : (IntKind.wrap .i64 (((((wds 10 (t ⟨⟩)).length : Nat)) : Int) - 1)) = ((nl (t ⟨⟩) : Nat) : Int) := by rw [wrap64 (by omega) (by omega)]; unfold nl; omega
    have hp : 0 + (IntKind.wrap .i64 (((((wds 10 (t ⟨⟩)).length : Nat)) : Int) - 1)).toNat * 1 = nl (t ⟨⟩) := by rw [hwr, Int.toNat_natCast]; omega
    have hsl : (0 : Int) ≤ 0 ∧ 0 ≤ (IntKind.wrap .i64 (((((wds 10 (t ⟨⟩)).length : Nat)) : Int) - 1)) ∧ (IntKind.wrap .i64 (((((wds 10 (t ⟨⟩)).length : Nat)) : Int) - 1)) ≤ ((((wds 10 (t ⟨⟩)).length : Nat)) : Int) := by rw [hwr]; unfold nl; omega
    have hnl : nl (t ⟨⟩) = (wds 10 (t ⟨⟩)).length - 1 := by unfold nl; rfl
    have h243 : (t ⟨⟩).size ≤ 243 := ho.one.1.1
    have hn : 1 < nl (t ⟨⟩) := ho.one.1.2.1
    have hg : gdTo (t ⟨⟩) 1 = true := ho.one.1.2.2.1
    have hb : gd (t ⟨⟩) 1 = false := ho.one.1.2.2.2
    have t0 : ltB (IntKind.wrap .i64 (IntKind.wrap .i64 (9 * m ⟨⟩) * c ⟨⟩)) (((t ⟨⟩).size : Nat) : Int) = false := by rw [h27, ltB_no]; omega
    have hln : ((IntKind.wrap .i64 (((((wds 10 (t ⟨⟩)).length : Nat)) : Int) - 1)).toNat - 0) = nl (t ⟨⟩) := by rw [hwr, Int.toNat_natCast]; omega
    have b0 : ltB 0 ((((IntKind.wrap .i64 (((((wds 10 (t ⟨⟩)).length : Nat)) : Int) - 1)).toNat - 0) : Nat) : Int) = true := by rw [hln, ltB_iff]; omega
    have x0 : (0 : Int) ≤ 0 ∧ (0 : Int) < ((((IntKind.wrap .i64 (((((wds 10 (t ⟨⟩)).length : Nat)) : Int) - 1)).toNat - 0) : Nat) : Int) := by rw [hln]; exact ⟨by omega, by omega⟩
    have y0 : 0 < ((wds 10 (t ⟨⟩)).map tx).length := by rw [List.length_map]; omega
    have z0 : m ⟨⟩ = ((3 : Nat) : Int) ∧ (((wds 10 (t ⟨⟩)).map tx).getD 0 ByteArray.empty).size ≤ 1048576 ∧ 3 ≤ 3 := ⟨hm, ln_size (t ⟨⟩) 0 hsz, by decide⟩
    have g0 : nrOk 3 (((wds 10 (t ⟨⟩)).map tx).getD 0 ByteArray.empty) = true := show gd (t ⟨⟩) 0 = true from allI_at hg (by omega)
    have b1 : ltB 1 ((((IntKind.wrap .i64 (((((wds 10 (t ⟨⟩)).length : Nat)) : Int) - 1)).toNat - 0) : Nat) : Int) = true := by rw [hln, ltB_iff]; omega
    have x1 : (0 : Int) ≤ 1 ∧ (1 : Int) < ((((IntKind.wrap .i64 (((((wds 10 (t ⟨⟩)).length : Nat)) : Int) - 1)).toNat - 0) : Nat) : Int) := by rw [hln]; exact ⟨by omega, by omega⟩
    have y1 : 1 < ((wds 10 (t ⟨⟩)).map tx).length := by rw [List.length_map]; omega
    have z1 : m ⟨⟩ = ((3 : Nat) : Int) ∧ (((wds 10 (t ⟨⟩)).map tx).getD 1 ByteArray.empty).size ≤ 1048576 ∧ 3 ≤ 3 := ⟨hm, ln_size (t ⟨⟩) 1 hsz, by decide⟩
    have g1 : nrOk 3 (((wds 10 (t ⟨⟩)).map tx).getD 1 ByteArray.empty) = false := show gd (t ⟨⟩) 1 = false from hb
    refine ⟨_, HLe.refl _, ?_⟩
    cbv
    repeat' first | (refine Ob.mk ?_ ?_; (focus (first | exact hsp | exact hsl | exact x0 | exact y0 | exact z0 | exact g0 | exact x1 | exact y1 | exact z1 | exact g1 | exact rfl)); cbv) | (refine Br.f t0 ?_; cbv) | (refine Br.t b0 ?_; cbv) | (refine alt_t g0 ?_; cbv) | (refine Br.t b1 ?_; cbv) | (refine alt_f g1 ?_; cbv) | (refine Loop.mk 70 ?_; cbv) | (refine Gen.same ?_; cbv)
  · cases hs
set_option maxRecDepth 100000 in
set_option maxHeartbeats 8000000 in
theorem ok21B2 : Ok Tryd.prog 21 (sLF fun t => t.size ≤ 243 ∧ 2 < nl t ∧ gdTo t 2 = true ∧ gd t 2 = false) := ok_of_wpaH (E := E21) mixed tts E21ok fn21 fun args H v H' o hs ho => by
  split at hs
  · rename_i t m c
    cases hs
    have hsz : (t ⟨⟩).size ≤ 1048576 := ho.one.2.1
    have hm : m ⟨⟩ = 3 := ho.one.2.2.1
    have hc : c ⟨⟩ = 9 := ho.one.2.2.2
    have h27 : IntKind.wrap .i64 (IntKind.wrap .i64 (9 * m ⟨⟩) * c ⟨⟩) = 243 := by rw [hm, hc]; decide
    have hsp : ({ data := #[10] } : ByteArray) = ({ data := #[10] } : ByteArray) ∧ (t ⟨⟩).size < 4294967281 := ⟨rfl, by omega⟩
    have hpos := wds_pos 10 (t ⟨⟩)
    have hle := wds_le 10 (t ⟨⟩)
    have hwr : (IntKind.wrap .i64 (((((wds 10 (t ⟨⟩)).length : Nat)) : Int) - 1)) = ((nl (t ⟨⟩) : Nat) : Int) := by rw [wrap64 (by omega) (by omega)]; unfold nl; omega
    have hp : 0 + (IntKind.wrap .i64 (((((wds 10 (t ⟨⟩)).length : Nat)) : Int) - 1)).toNat * 1 = nl (t ⟨⟩) := by rw [hwr, Int.toNat_natCast]; omega
    have hsl : (0 : Int) ≤ 0 ∧ 0 ≤ (IntKind.wrap .i64 (((((wds 10 (t ⟨⟩)).length : Nat)) : Int) - 1)) ∧ (IntKind.wrap .i64 (((((wds 10 (t ⟨⟩)).length : Nat)) : Int) - 1)) ≤ ((((wds 10 (t ⟨⟩)).length : Nat)) : Int) := by rw [hwr]; unfold nl; omega
    have hnl : nl (t ⟨⟩) = (wds 10 (t ⟨⟩)).length - 1 := by unfold nl; rfl
    have h243 : (t ⟨⟩).size ≤ 243 := ho.one.1.1
    have hn : 2 < nl (t ⟨⟩) := ho.one.1.2.1
    have hg : gdTo (t ⟨⟩) 2 = true := ho.one.1.2.2.1
    have hb : gd (t ⟨⟩) 2 = false := ho.one.1.2.2.2
    have t0 : ltB (IntKind.wrap .i64 (IntKind.wrap .i64 (9 * m ⟨⟩) * c ⟨⟩)) (((t ⟨⟩).size : Nat) : Int) = false := by rw [h27, ltB_no]; omega
    have hln : ((IntKind.wrap .i64 (((((wds 10 (t ⟨⟩)).length : Nat)) : Int) - 1)).toNat - 0) = nl (t ⟨⟩) := by rw [hwr, Int.toNat_natCast]; omega
    have b0 : ltB 0 ((((IntKind.wrap .i64 (((((wds 10 (t ⟨⟩)).length : Nat)) : Int) - 1)).toNat - 0) : Nat) : Int) = true := by rw [hln, ltB_iff]; omega
    have x0 : (0 : Int) ≤ 0 ∧ (0 : Int) < ((((IntKind.wrap .i64 (((((wds 10 (t ⟨⟩)).length : Nat)) : Int) - 1)).toNat - 0) : Nat) : Int) := by rw [hln]; exact ⟨by omega, by omega⟩
    have y0 : 0 < ((wds 10 (t ⟨⟩)).map tx).length := by rw [List.length_map]; omega
    have z0 : m ⟨⟩ = ((3 : Nat) : Int) ∧ (((wds 10 (t ⟨⟩)).map tx).getD 0 ByteArray.empty).size ≤ 1048576 ∧ 3 ≤ 3 := ⟨hm, ln_size (t ⟨⟩) 0 hsz, by decide⟩
    have g0 : nrOk 3 (((wds 10 (t ⟨⟩)).map tx).getD 0 ByteArray.empty) = true := show gd (t ⟨⟩) 0 = true from allI_at hg (by omega)
    have b1 : ltB 1 ((((IntKind.wrap .i64 (((((wds 10 (t ⟨⟩)).length : Nat)) : Int) - 1)).toNat - 0) : Nat) : Int) = true := by rw [hln, ltB_iff]; omega
    have x1 : (0 : Int) ≤ 1 ∧ (1 : Int) < ((((IntKind.wrap .i64 (((((wds 10 (t ⟨⟩)).length : Nat)) : Int) - 1)).toNat - 0) : Nat) : Int) := by rw [hln]; exact ⟨by omega, by omega⟩
    have y1 : 1 < ((wds 10 (t ⟨⟩)).map tx).length := by rw [List.length_map]; omega
    have z1 : m ⟨⟩ = ((3 : Nat) : Int) ∧ (((wds 10 (t ⟨⟩)).map tx).getD 1 ByteArray.empty).size ≤ 1048576 ∧ 3 ≤ 3 := ⟨hm, ln_size (t ⟨⟩) 1 hsz, by decide⟩
    have g1 : nrOk 3 (((wds 10 (t ⟨⟩)).map tx).getD 1 ByteArray.empty) = true := show gd (t ⟨⟩) 1 = true from allI_at hg (by omega)
    have b2 : ltB 2 ((((IntKind.wrap .i64 (((((wds 10 (t ⟨⟩)).length : Nat)) : Int) - 1)).toNat - 0) : Nat) : Int) = true := by rw [hln, ltB_iff]; omega
    have x2 : (0 : Int) ≤ 2 ∧ (2 : Int) < ((((IntKind.wrap .i64 (((((wds 10 (t ⟨⟩)).length : Nat)) : Int) - 1)).toNat - 0) : Nat) : Int) := by rw [hln]; exact ⟨by omega, by omega⟩
    have y2 : 2 < ((wds 10 (t ⟨⟩)).map tx).length := by rw [List.length_map]; omega
    have z2 : m ⟨⟩ = ((3 : Nat) : Int) ∧ (((wds 10 (t ⟨⟩)).map tx).getD 2 ByteArray.empty).size ≤ 1048576 ∧ 3 ≤ 3 := ⟨hm, ln_size (t ⟨⟩) 2 hsz, by decide⟩
    have g2 : nrOk 3 (((wds 10 (t ⟨⟩)).map tx).getD 2 ByteArray.empty) = false := show gd (t ⟨⟩) 2 = false from hb
    refine ⟨_, HLe.refl _, ?_⟩
    cbv
    repeat' first | (refine Ob.mk ?_ ?_; (focus (first | exact hsp | exact hsl | exact x0 | exact y0 | exact z0 | exact g0 | exact x1 | exact y1 | exact z1 | exact g1 | exact x2 | exact y2 | exact z2 | exact g2 | exact rfl)); cbv) | (refine Br.f t0 ?_; cbv) | (refine Br.t b0 ?_; cbv) | (refine alt_t g0 ?_; cbv) | (refine Br.t b1 ?_; cbv) | (refine alt_t g1 ?_; cbv) | (refine Br.t b2 ?_; cbv) | (refine alt_f g2 ?_; cbv) | (refine Loop.mk 70 ?_; cbv) | (refine Gen.same ?_; cbv)
  · cases hs
set_option maxRecDepth 100000 in
set_option maxHeartbeats 8000000 in
theorem ok21B3 : Ok Tryd.prog 21 (sLF fun t => t.size ≤ 243 ∧ 3 < nl t ∧ gdTo t 3 = true ∧ gd t 3 = false) := ok_of_wpaH (E := E21) mixed tts E21ok fn21 fun args H v H' o hs ho => by
  split at hs
  · rename_i t m c
    cases hs
    have hsz : (t ⟨⟩).size ≤ 1048576 := ho.one.2.1
    have hm : m ⟨⟩ = 3 := ho.one.2.2.1
    have hc : c ⟨⟩ = 9 := ho.one.2.2.2
    have h27 : IntKind.wrap .i64 (IntKind.wrap .i64 (9 * m ⟨⟩) * c ⟨⟩) = 243 := by rw [hm, hc]; decide
    have hsp : ({ data := #[10] } : ByteArray) = ({ data := #[10] } : ByteArray) ∧ (t ⟨⟩).size < 4294967281 := ⟨rfl, by omega⟩
    have hpos := wds_pos 10 (t ⟨⟩)
    have hle := wds_le 10 (t ⟨⟩)
    have hwr : (IntKind.wrap .i64 (((((wds 10 (t ⟨⟩)).length : Nat)) : Int) - 1)) = ((nl (t ⟨⟩) : Nat) : Int) := by rw [wrap64 (by omega) (by omega)]; unfold nl; omega
    have hp : 0 + (IntKind.wrap .i64 (((((wds 10 (t ⟨⟩)).length : Nat)) : Int) - 1)).toNat * 1 = nl (t ⟨⟩) := by rw [hwr, Int.toNat_natCast]; omega
    have hsl : (0 : Int) ≤ 0 ∧ 0 ≤ (IntKind.wrap .i64 (((((wds 10 (t ⟨⟩)).length : Nat)) : Int) - 1)) ∧ (IntKind.wrap .i64 (((((wds 10 (t ⟨⟩)).length : Nat)) : Int) - 1)) ≤ ((((wds 10 (t ⟨⟩)).length : Nat)) : Int) := by rw [hwr]; unfold nl; omega
    have hnl : nl (t ⟨⟩) = (wds 10 (t ⟨⟩)).length - 1 := by unfold nl; rfl
    have h243 : (t ⟨⟩).size ≤ 243 := ho.one.1.1
    have hn : 3 < nl (t ⟨⟩) := ho.one.1.2.1
    have hg : gdTo (t ⟨⟩) 3 = true := ho.one.1.2.2.1
    have hb : gd (t ⟨⟩) 3 = false := ho.one.1.2.2.2
    have t0 : ltB (IntKind.wrap .i64 (IntKind.wrap .i64 (9 * m ⟨⟩) * c ⟨⟩)) (((t ⟨⟩).size : Nat) : Int) = false := by rw [h27, ltB_no]; omega
    have hln : ((IntKind.wrap .i64 (((((wds 10 (t ⟨⟩)).length : Nat)) : Int) - 1)).toNat - 0) = nl (t ⟨⟩) := by rw [hwr, Int.toNat_natCast]; omega
    have b0 : ltB 0 ((((IntKind.wrap .i64 (((((wds 10 (t ⟨⟩)).length : Nat)) : Int) - 1)).toNat - 0) : Nat) : Int) = true := by rw [hln, ltB_iff]; omega
    have x0 : (0 : Int) ≤ 0 ∧ (0 : Int) < ((((IntKind.wrap .i64 (((((wds 10 (t ⟨⟩)).length : Nat)) : Int) - 1)).toNat - 0) : Nat) : Int) := by rw [hln]; exact ⟨by omega, by omega⟩
    have y0 : 0 < ((wds 10 (t ⟨⟩)).map tx).length := by rw [List.length_map]; omega
    have z0 : m ⟨⟩ = ((3 : Nat) : Int) ∧ (((wds 10 (t ⟨⟩)).map tx).getD 0 ByteArray.empty).size ≤ 1048576 ∧ 3 ≤ 3 := ⟨hm, ln_size (t ⟨⟩) 0 hsz, by decide⟩
    have g0 : nrOk 3 (((wds 10 (t ⟨⟩)).map tx).getD 0 ByteArray.empty) = true := show gd (t ⟨⟩) 0 = true from allI_at hg (by omega)
    have b1 : ltB 1 ((((IntKind.wrap .i64 (((((wds 10 (t ⟨⟩)).length : Nat)) : Int) - 1)).toNat - 0) : Nat) : Int) = true := by rw [hln, ltB_iff]; omega
    have x1 : (0 : Int) ≤ 1 ∧ (1 : Int) < ((((IntKind.wrap .i64 (((((wds 10 (t ⟨⟩)).length : Nat)) : Int) - 1)).toNat - 0) : Nat) : Int) := by rw [hln]; exact ⟨by omega, by omega⟩
    have y1 : 1 < ((wds 10 (t ⟨⟩)).map tx).length := by rw [List.length_map]; omega
    have z1 : m ⟨⟩ = ((3 : Nat) : Int) ∧ (((wds 10 (t ⟨⟩)).map tx).getD 1 ByteArray.empty).size ≤ 1048576 ∧ 3 ≤ 3 := ⟨hm, ln_size (t ⟨⟩) 1 hsz, by decide⟩
    have g1 : nrOk 3 (((wds 10 (t ⟨⟩)).map tx).getD 1 ByteArray.empty) = true := show gd (t ⟨⟩) 1 = true from allI_at hg (by omega)
    have b2 : ltB 2 ((((IntKind.wrap .i64 (((((wds 10 (t ⟨⟩)).length : Nat)) : Int) - 1)).toNat - 0) : Nat) : Int) = true := by rw [hln, ltB_iff]; omega
    have x2 : (0 : Int) ≤ 2 ∧ (2 : Int) < ((((IntKind.wrap .i64 (((((wds 10 (t ⟨⟩)).length : Nat)) : Int) - 1)).toNat - 0) : Nat) : Int) := by rw [hln]; exact ⟨by omega, by omega⟩
    have y2 : 2 < ((wds 10 (t ⟨⟩)).map tx).length := by rw [List.length_map]; omega
    have z2 : m ⟨⟩ = ((3 : Nat) : Int) ∧ (((wds 10 (t ⟨⟩)).map tx).getD 2 ByteArray.empty).size ≤ 1048576 ∧ 3 ≤ 3 := ⟨hm, ln_size (t ⟨⟩) 2 hsz, by decide⟩
    have g2 : nrOk 3 (((wds 10 (t ⟨⟩)).map tx).getD 2 ByteArray.empty) = true := show gd (t ⟨⟩) 2 = true from allI_at hg (by omega)
    have b3 : ltB 3 ((((IntKind.wrap .i64 (((((wds 10 (t ⟨⟩)).length : Nat)) : Int) - 1)).toNat - 0) : Nat) : Int) = true := by rw [hln, ltB_iff]; omega
    have x3 : (0 : Int) ≤ 3 ∧ (3 : Int) < ((((IntKind.wrap .i64 (((((wds 10 (t ⟨⟩)).length : Nat)) : Int) - 1)).toNat - 0) : Nat) : Int) := by rw [hln]; exact ⟨by omega, by omega⟩
    have y3 : 3 < ((wds 10 (t ⟨⟩)).map tx).length := by rw [List.length_map]; omega
    have z3 : m ⟨⟩ = ((3 : Nat) : Int) ∧ (((wds 10 (t ⟨⟩)).map tx).getD 3 ByteArray.empty).size ≤ 1048576 ∧ 3 ≤ 3 := ⟨hm, ln_size (t ⟨⟩) 3 hsz, by decide⟩
    have g3 : nrOk 3 (((wds 10 (t ⟨⟩)).map tx).getD 3 ByteArray.empty) = false := show gd (t ⟨⟩) 3 = false from hb
    refine ⟨_, HLe.refl _, ?_⟩
    cbv
    repeat' first | (refine Ob.mk ?_ ?_; (focus (first | exact hsp | exact hsl | exact x0 | exact y0 | exact z0 | exact g0 | exact x1 | exact y1 | exact z1 | exact g1 | exact x2 | exact y2 | exact z2 | exact g2 | exact x3 | exact y3 | exact z3 | exact g3 | exact rfl)); cbv) | (refine Br.f t0 ?_; cbv) | (refine Br.t b0 ?_; cbv) | (refine alt_t g0 ?_; cbv) | (refine Br.t b1 ?_; cbv) | (refine alt_t g1 ?_; cbv) | (refine Br.t b2 ?_; cbv) | (refine alt_t g2 ?_; cbv) | (refine Br.t b3 ?_; cbv) | (refine alt_f g3 ?_; cbv) | (refine Loop.mk 70 ?_; cbv) | (refine Gen.same ?_; cbv)
  · cases hs
set_option maxRecDepth 100000 in
set_option maxHeartbeats 8000000 in
theorem ok21B4 : Ok Tryd.prog 21 (sLF fun t => t.size ≤ 243 ∧ 4 < nl t ∧ gdTo t 4 = true ∧ gd t 4 = false) := ok_of_wpaH (E := E21) mixed tts E21ok fn21 fun args H v H' o hs ho => by
  split at hs
  · rename_i t m c
    cases hs
    have hsz : (t ⟨⟩).size ≤ 1048576 := ho.one.2.1
    have hm : m ⟨⟩ = 3 := ho.one.2.2.1
    have hc : c ⟨⟩ = 9 := ho.one.2.2.2
    have h27 : IntKind.wrap .i64 (IntKind.wrap .i64 (9 * m ⟨⟩) * c ⟨⟩) = 243 := by rw [hm, hc]; decide
    have hsp : ({ data := #[10] } : ByteArray) = ({ data := #[10] } : ByteArray) ∧ (t ⟨⟩).size < 4294967281 := ⟨rfl, by omega⟩
    have hpos := wds_pos 10 (t ⟨⟩)
    have hle := wds_le 10 (t ⟨⟩)
    have hwr : (IntKind.wrap .i64 (((((wds 10 (t ⟨⟩)).length : Nat)) : Int) - 1)) = ((nl (t ⟨⟩) : Nat) : Int) := by rw [wrap64 (by omega) (by omega)]; unfold nl; omega
    have hp : 0 + (IntKind.wrap .i64 (((((wds 10 (t ⟨⟩)).length : Nat)) : Int) - 1)).toNat * 1 = nl (t ⟨⟩) := by rw [hwr, Int.toNat_natCast]; omega
    have hsl : (0 : Int) ≤ 0 ∧ 0 ≤ (IntKind.wrap .i64 (((((wds 10 (t ⟨⟩)).length : Nat)) : Int) - 1)) ∧ (IntKind.wrap .i64 (((((wds 10 (t ⟨⟩)).length : Nat)) : Int) - 1)) ≤ ((((wds 10 (t ⟨⟩)).length : Nat)) : Int) := by rw [hwr]; unfold nl; omega
    have hnl : nl (t ⟨⟩) = (wds 10 (t ⟨⟩)).length - 1 := by unfold nl; rfl
    have h243 : (t ⟨⟩).size ≤ 243 := ho.one.1.1
    have hn : 4 < nl (t ⟨⟩) := ho.one.1.2.1
    have hg : gdTo (t ⟨⟩) 4 = true := ho.one.1.2.2.1
    have hb : gd (t ⟨⟩) 4 = false := ho.one.1.2.2.2
    have t0 : ltB (IntKind.wrap .i64 (IntKind.wrap .i64 (9 * m ⟨⟩) * c ⟨⟩)) (((t ⟨⟩).size : Nat) : Int) = false := by rw [h27, ltB_no]; omega
    have hln : ((IntKind.wrap .i64 (((((wds 10 (t ⟨⟩)).length : Nat)) : Int) - 1)).toNat - 0) = nl (t ⟨⟩) := by rw [hwr, Int.toNat_natCast]; omega
    have b0 : ltB 0 ((((IntKind.wrap .i64 (((((wds 10 (t ⟨⟩)).length : Nat)) : Int) - 1)).toNat - 0) : Nat) : Int) = true := by rw [hln, ltB_iff]; omega
    have x0 : (0 : Int) ≤ 0 ∧ (0 : Int) < ((((IntKind.wrap .i64 (((((wds 10 (t ⟨⟩)).length : Nat)) : Int) - 1)).toNat - 0) : Nat) : Int) := by rw [hln]; exact ⟨by omega, by omega⟩
    have y0 : 0 < ((wds 10 (t ⟨⟩)).map tx).length := by rw [List.length_map]; omega
    have z0 : m ⟨⟩ = ((3 : Nat) : Int) ∧ (((wds 10 (t ⟨⟩)).map tx).getD 0 ByteArray.empty).size ≤ 1048576 ∧ 3 ≤ 3 := ⟨hm, ln_size (t ⟨⟩) 0 hsz, by decide⟩
    have g0 : nrOk 3 (((wds 10 (t ⟨⟩)).map tx).getD 0 ByteArray.empty) = true := show gd (t ⟨⟩) 0 = true from allI_at hg (by omega)
    have b1 : ltB 1 ((((IntKind.wrap .i64 (((((wds 10 (t ⟨⟩)).length : Nat)) : Int) - 1)).toNat - 0) : Nat) : Int) = true := by rw [hln, ltB_iff]; omega
    have x1 : (0 : Int) ≤ 1 ∧ (1 : Int) < ((((IntKind.wrap .i64 (((((wds 10 (t ⟨⟩)).length : Nat)) : Int) - 1)).toNat - 0) : Nat) : Int) := by rw [hln]; exact ⟨by omega, by omega⟩
    have y1 : 1 < ((wds 10 (t ⟨⟩)).map tx).length := by rw [List.length_map]; omega
    have z1 : m ⟨⟩ = ((3 : Nat) : Int) ∧ (((wds 10 (t ⟨⟩)).map tx).getD 1 ByteArray.empty).size ≤ 1048576 ∧ 3 ≤ 3 := ⟨hm, ln_size (t ⟨⟩) 1 hsz, by decide⟩
    have g1 : nrOk 3 (((wds 10 (t ⟨⟩)).map tx).getD 1 ByteArray.empty) = true := show gd (t ⟨⟩) 1 = true from allI_at hg (by omega)
    have b2 : ltB 2 ((((IntKind.wrap .i64 (((((wds 10 (t ⟨⟩)).length : Nat)) : Int) - 1)).toNat - 0) : Nat) : Int) = true := by rw [hln, ltB_iff]; omega
    have x2 : (0 : Int) ≤ 2 ∧ (2 : Int) < ((((IntKind.wrap .i64 (((((wds 10 (t ⟨⟩)).length : Nat)) : Int) - 1)).toNat - 0) : Nat) : Int) := by rw [hln]; exact ⟨by omega, by omega⟩
    have y2 : 2 < ((wds 10 (t ⟨⟩)).map tx).length := by rw [List.length_map]; omega
    have z2 : m ⟨⟩ = ((3 : Nat) : Int) ∧ (((wds 10 (t ⟨⟩)).map tx).getD 2 ByteArray.empty).size ≤ 1048576 ∧ 3 ≤ 3 := ⟨hm, ln_size (t ⟨⟩) 2 hsz, by decide⟩
    have g2 : nrOk 3 (((wds 10 (t ⟨⟩)).map tx).getD 2 ByteArray.empty) = true := show gd (t ⟨⟩) 2 = true from allI_at hg (by omega)
    have b3 : ltB 3 ((((IntKind.wrap .i64 (((((wds 10 (t ⟨⟩)).length : Nat)) : Int) - 1)).toNat - 0) : Nat) : Int) = true := by rw [hln, ltB_iff]; omega
    have x3 : (0 : Int) ≤ 3 ∧ (3 : Int) < ((((IntKind.wrap .i64 (((((wds 10 (t ⟨⟩)).length : Nat)) : Int) - 1)).toNat - 0) : Nat) : Int) := by rw [hln]; exact ⟨by omega, by omega⟩
    have y3 : 3 < ((wds 10 (t ⟨⟩)).map tx).length := by rw [List.length_map]; omega
    have z3 : m ⟨⟩ = ((3 : Nat) : Int) ∧ (((wds 10 (t ⟨⟩)).map tx).getD 3 ByteArray.empty).size ≤ 1048576 ∧ 3 ≤ 3 := ⟨hm, ln_size (t ⟨⟩) 3 hsz, by decide⟩
    have g3 : nrOk 3 (((wds 10 (t ⟨⟩)).map tx).getD 3 ByteArray.empty) = true := show gd (t ⟨⟩) 3 = true from allI_at hg (by omega)
    have b4 : ltB 4 ((((IntKind.wrap .i64 (((((wds 10 (t ⟨⟩)).length : Nat)) : Int) - 1)).toNat - 0) : Nat) : Int) = true := by rw [hln, ltB_iff]; omega
    have x4 : (0 : Int) ≤ 4 ∧ (4 : Int) < ((((IntKind.wrap .i64 (((((wds 10 (t ⟨⟩)).length : Nat)) : Int) - 1)).toNat - 0) : Nat) : Int) := by rw [hln]; exact ⟨by omega, by omega⟩
    have y4 : 4 < ((wds 10 (t ⟨⟩)).map tx).length := by rw [List.length_map]; omega
    have z4 : m ⟨⟩ = ((3 : Nat) : Int) ∧ (((wds 10 (t ⟨⟩)).map tx).getD 4 ByteArray.empty).size ≤ 1048576 ∧ 3 ≤ 3 := ⟨hm, ln_size (t ⟨⟩) 4 hsz, by decide⟩
    have g4 : nrOk 3 (((wds 10 (t ⟨⟩)).map tx).getD 4 ByteArray.empty) = false := show gd (t ⟨⟩) 4 = false from hb
    refine ⟨_, HLe.refl _, ?_⟩
    cbv
    repeat' first | (refine Ob.mk ?_ ?_; (focus (first | exact hsp | exact hsl | exact x0 | exact y0 | exact z0 | exact g0 | exact x1 | exact y1 | exact z1 | exact g1 | exact x2 | exact y2 | exact z2 | exact g2 | exact x3 | exact y3 | exact z3 | exact g3 | exact x4 | exact y4 | exact z4 | exact g4 | exact rfl)); cbv) | (refine Br.f t0 ?_; cbv) | (refine Br.t b0 ?_; cbv) | (refine alt_t g0 ?_; cbv) | (refine Br.t b1 ?_; cbv) | (refine alt_t g1 ?_; cbv) | (refine Br.t b2 ?_; cbv) | (refine alt_t g2 ?_; cbv) | (refine Br.t b3 ?_; cbv) | (refine alt_t g3 ?_; cbv) | (refine Br.t b4 ?_; cbv) | (refine alt_f g4 ?_; cbv) | (refine Loop.mk 70 ?_; cbv) | (refine Gen.same ?_; cbv)
  · cases hs
set_option maxRecDepth 100000 in
set_option maxHeartbeats 8000000 in
theorem ok21B5 : Ok Tryd.prog 21 (sLF fun t => t.size ≤ 243 ∧ 5 < nl t ∧ gdTo t 5 = true ∧ gd t 5 = false) := ok_of_wpaH (E := E21) mixed tts E21ok fn21 fun args H v H' o hs ho => by
  split at hs
  · rename_i t m c
    cases hs
    have hsz : (t ⟨⟩).size ≤ 1048576 := ho.one.2.1
    have hm : m ⟨⟩ = 3 := ho.one.2.2.1
    have hc : c ⟨⟩ = 9 := ho.one.2.2.2
    have h27 : IntKind.wrap .i64 (IntKind.wrap .i64 (9 * m ⟨⟩) * c ⟨⟩) = 243 := by rw [hm, hc]; decide
    have hsp : ({ data := #[10] } : ByteArray) = ({ data := #[10] } : ByteArray) ∧ (t ⟨⟩).size < 4294967281 := ⟨rfl, by omega⟩
    have hpos := wds_pos 10 (t ⟨⟩)
    have hle := wds_le 10 (t ⟨⟩)
    have hwr : (IntKind.wrap .i64 (((((wds 10 (t ⟨⟩)).length : Nat)) : Int) - 1)) = ((nl (t ⟨⟩) : Nat) : Int) := by rw [wrap64 (by omega) (by omega)]; unfold nl; omega
    have hp : 0 + (IntKind.wrap .i64 (((((wds 10 (t ⟨⟩)).length : Nat)) : Int) - 1)).toNat * 1 = nl (t ⟨⟩) := by rw [hwr, Int.toNat_natCast]; omega
    have hsl : (0 : Int) ≤ 0 ∧ 0 ≤ (IntKind.wrap .i64 (((((wds 10 (t ⟨⟩)).length : Nat)) : Int) - 1)) ∧ (IntKind.wrap .i64 (((((wds 10 (t ⟨⟩)).length : Nat)) : Int) - 1)) ≤ ((((wds 10 (t ⟨⟩)).length : Nat)) : Int) := by rw [hwr]; unfold nl; omega
    have hnl : nl (t ⟨⟩) = (wds 10 (t ⟨⟩)).length - 1 := by unfold nl; rfl
    have h243 : (t ⟨⟩).size ≤ 243 := ho.one.1.1
    have hn : 5 < nl (t ⟨⟩) := ho.one.1.2.1
    have hg : gdTo (t ⟨⟩) 5 = true := ho.one.1.2.2.1
    have hb : gd (t ⟨⟩) 5 = false := ho.one.1.2.2.2
    have t0 : ltB (IntKind.wrap .i64 (IntKind.wrap .i64 (9 * m ⟨⟩) * c ⟨⟩)) (((t ⟨⟩).size : Nat) : Int) = false := by rw [h27, ltB_no]; omega
    have hln : ((IntKind.wrap .i64 (((((wds 10 (t ⟨⟩)).length : Nat)) : Int) - 1)).toNat - 0) = nl (t ⟨⟩) := by rw [hwr, Int.toNat_natCast]; omega
    have b0 : ltB 0 ((((IntKind.wrap .i64 (((((wds 10 (t ⟨⟩)).length : Nat)) : Int) - 1)).toNat - 0) : Nat) : Int) = true := by rw [hln, ltB_iff]; omega
    have x0 : (0 : Int) ≤ 0 ∧ (0 : Int) < ((((IntKind.wrap .i64 (((((wds 10 (t ⟨⟩)).length : Nat)) : Int) - 1)).toNat - 0) : Nat) : Int) := by rw [hln]; exact ⟨by omega, by omega⟩
    have y0 : 0 < ((wds 10 (t ⟨⟩)).map tx).length := by rw [List.length_map]; omega
    have z0 : m ⟨⟩ = ((3 : Nat) : Int) ∧ (((wds 10 (t ⟨⟩)).map tx).getD 0 ByteArray.empty).size ≤ 1048576 ∧ 3 ≤ 3 := ⟨hm, ln_size (t ⟨⟩) 0 hsz, by decide⟩
    have g0 : nrOk 3 (((wds 10 (t ⟨⟩)).map tx).getD 0 ByteArray.empty) = true := show gd (t ⟨⟩) 0 = true from allI_at hg (by omega)
    have b1 : ltB 1 ((((IntKind.wrap .i64 (((((wds 10 (t ⟨⟩)).length : Nat)) : Int) - 1)).toNat - 0) : Nat) : Int) = true := by rw [hln, ltB_iff]; omega
    have x1 : (0 : Int) ≤ 1 ∧ (1 : Int) < ((((IntKind.wrap .i64 (((((wds 10 (t ⟨⟩)).length : Nat)) : Int) - 1)).toNat - 0) : Nat) : Int) := by rw [hln]; exact ⟨by omega, by omega⟩
    have y1 : 1 < ((wds 10 (t ⟨⟩)).map tx).length := by rw [List.length_map]; omega
    have z1 : m ⟨⟩ = ((3 : Nat) : Int) ∧ (((wds 10 (t ⟨⟩)).map tx).getD 1 ByteArray.empty).size ≤ 1048576 ∧ 3 ≤ 3 := ⟨hm, ln_size (t ⟨⟩) 1 hsz, by decide⟩
    have g1 : nrOk 3 (((wds 10 (t ⟨⟩)).map tx).getD 1 ByteArray.empty) = true := show gd (t ⟨⟩) 1 = true from allI_at hg (by omega)
    have b2 : ltB 2 ((((IntKind.wrap .i64 (((((wds 10 (t ⟨⟩)).length : Nat)) : Int) - 1)).toNat - 0) : Nat) : Int) = true := by rw [hln, ltB_iff]; omega
    have x2 : (0 : Int) ≤ 2 ∧ (2 : Int) < ((((IntKind.wrap .i64 (((((wds 10 (t ⟨⟩)).length : Nat)) : Int) - 1)).toNat - 0) : Nat) : Int) := by rw [hln]; exact ⟨by omega, by omega⟩
    have y2 : 2 < ((wds 10 (t ⟨⟩)).map tx).length := by rw [List.length_map]; omega
    have z2 : m ⟨⟩ = ((3 : Nat) : Int) ∧ (((wds 10 (t ⟨⟩)).map tx).getD 2 ByteArray.empty).size ≤ 1048576 ∧ 3 ≤ 3 := ⟨hm, ln_size (t ⟨⟩) 2 hsz, by decide⟩
    have g2 : nrOk 3 (((wds 10 (t ⟨⟩)).map tx).getD 2 ByteArray.empty) = true := show gd (t ⟨⟩) 2 = true from allI_at hg (by omega)
    have b3 : ltB 3 ((((IntKind.wrap .i64 (((((wds 10 (t ⟨⟩)).length : Nat)) : Int) - 1)).toNat - 0) : Nat) : Int) = true := by rw [hln, ltB_iff]; omega
    have x3 : (0 : Int) ≤ 3 ∧ (3 : Int) < ((((IntKind.wrap .i64 (((((wds 10 (t ⟨⟩)).length : Nat)) : Int) - 1)).toNat - 0) : Nat) : Int) := by rw [hln]; exact ⟨by omega, by omega⟩
    have y3 : 3 < ((wds 10 (t ⟨⟩)).map tx).length := by rw [List.length_map]; omega
    have z3 : m ⟨⟩ = ((3 : Nat) : Int) ∧ (((wds 10 (t ⟨⟩)).map tx).getD 3 ByteArray.empty).size ≤ 1048576 ∧ 3 ≤ 3 := ⟨hm, ln_size (t ⟨⟩) 3 hsz, by decide⟩
    have g3 : nrOk 3 (((wds 10 (t ⟨⟩)).map tx).getD 3 ByteArray.empty) = true := show gd (t ⟨⟩) 3 = true from allI_at hg (by omega)
    have b4 : ltB 4 ((((IntKind.wrap .i64 (((((wds 10 (t ⟨⟩)).length : Nat)) : Int) - 1)).toNat - 0) : Nat) : Int) = true := by rw [hln, ltB_iff]; omega
    have x4 : (0 : Int) ≤ 4 ∧ (4 : Int) < ((((IntKind.wrap .i64 (((((wds 10 (t ⟨⟩)).length : Nat)) : Int) - 1)).toNat - 0) : Nat) : Int) := by rw [hln]; exact ⟨by omega, by omega⟩
    have y4 : 4 < ((wds 10 (t ⟨⟩)).map tx).length := by rw [List.length_map]; omega
    have z4 : m ⟨⟩ = ((3 : Nat) : Int) ∧ (((wds 10 (t ⟨⟩)).map tx).getD 4 ByteArray.empty).size ≤ 1048576 ∧ 3 ≤ 3 := ⟨hm, ln_size (t ⟨⟩) 4 hsz, by decide⟩
    have g4 : nrOk 3 (((wds 10 (t ⟨⟩)).map tx).getD 4 ByteArray.empty) = true := show gd (t ⟨⟩) 4 = true from allI_at hg (by omega)
    have b5 : ltB 5 ((((IntKind.wrap .i64 (((((wds 10 (t ⟨⟩)).length : Nat)) : Int) - 1)).toNat - 0) : Nat) : Int) = true := by rw [hln, ltB_iff]; omega
    have x5 : (0 : Int) ≤ 5 ∧ (5 : Int) < ((((IntKind.wrap .i64 (((((wds 10 (t ⟨⟩)).length : Nat)) : Int) - 1)).toNat - 0) : Nat) : Int) := by rw [hln]; exact ⟨by omega, by omega⟩
    have y5 : 5 < ((wds 10 (t ⟨⟩)).map tx).length := by rw [List.length_map]; omega
    have z5 : m ⟨⟩ = ((3 : Nat) : Int) ∧ (((wds 10 (t ⟨⟩)).map tx).getD 5 ByteArray.empty).size ≤ 1048576 ∧ 3 ≤ 3 := ⟨hm, ln_size (t ⟨⟩) 5 hsz, by decide⟩
    have g5 : nrOk 3 (((wds 10 (t ⟨⟩)).map tx).getD 5 ByteArray.empty) = false := show gd (t ⟨⟩) 5 = false from hb
    refine ⟨_, HLe.refl _, ?_⟩
    cbv
    repeat' first | (refine Ob.mk ?_ ?_; (focus (first | exact hsp | exact hsl | exact x0 | exact y0 | exact z0 | exact g0 | exact x1 | exact y1 | exact z1 | exact g1 | exact x2 | exact y2 | exact z2 | exact g2 | exact x3 | exact y3 | exact z3 | exact g3 | exact x4 | exact y4 | exact z4 | exact g4 | exact x5 | exact y5 | exact z5 | exact g5 | exact rfl)); cbv) | (refine Br.f t0 ?_; cbv) | (refine Br.t b0 ?_; cbv) | (refine alt_t g0 ?_; cbv) | (refine Br.t b1 ?_; cbv) | (refine alt_t g1 ?_; cbv) | (refine Br.t b2 ?_; cbv) | (refine alt_t g2 ?_; cbv) | (refine Br.t b3 ?_; cbv) | (refine alt_t g3 ?_; cbv) | (refine Br.t b4 ?_; cbv) | (refine alt_t g4 ?_; cbv) | (refine Br.t b5 ?_; cbv) | (refine alt_f g5 ?_; cbv) | (refine Loop.mk 70 ?_; cbv) | (refine Gen.same ?_; cbv)
  · cases hs
set_option maxRecDepth 100000 in
set_option maxHeartbeats 8000000 in
theorem ok21B6 : Ok Tryd.prog 21 (sLF fun t => t.size ≤ 243 ∧ 6 < nl t ∧ gdTo t 6 = true ∧ gd t 6 = false) := ok_of_wpaH (E := E21) mixed tts E21ok fn21 fun args H v H' o hs ho => by
  split at hs
  · rename_i t m c
    cases hs
    have hsz : (t ⟨⟩).size ≤ 1048576 := ho.one.2.1
    have hm : m ⟨⟩ = 3 := ho.one.2.2.1
    have hc : c ⟨⟩ = 9 := ho.one.2.2.2
    have h27 : IntKind.wrap .i64 (IntKind.wrap .i64 (9 * m ⟨⟩) * c ⟨⟩) = 243 := by rw [hm, hc]; decide
    have hsp : ({ data := #[10] } : ByteArray) = ({ data := #[10] } : ByteArray) ∧ (t ⟨⟩).size < 4294967281 := ⟨rfl, by omega⟩
    have hpos := wds_pos 10 (t ⟨⟩)
    have hle := wds_le 10 (t ⟨⟩)
    have hwr : (IntKind.wrap .i64 (((((wds 10 (t ⟨⟩)).length : Nat)) : Int) - 1)) = ((nl (t ⟨⟩) : Nat) : Int) := by rw [wrap64 (by omega) (by omega)]; unfold nl; omega
    have hp : 0 + (IntKind.wrap .i64 (((((wds 10 (t ⟨⟩)).length : Nat)) : Int) - 1)).toNat * 1 = nl (t ⟨⟩) := by rw [hwr, Int.toNat_natCast]; omega
    have hsl : (0 : Int) ≤ 0 ∧ 0 ≤ (IntKind.wrap .i64 (((((wds 10 (t ⟨⟩)).length : Nat)) : Int) - 1)) ∧ (IntKind.wrap .i64 (((((wds 10 (t ⟨⟩)).length : Nat)) : Int) - 1)) ≤ ((((wds 10 (t ⟨⟩)).length : Nat)) : Int) := by rw [hwr]; unfold nl; omega
    have hnl : nl (t ⟨⟩) = (wds 10 (t ⟨⟩)).length - 1 := by unfold nl; rfl
    have h243 : (t ⟨⟩).size ≤ 243 := ho.one.1.1
    have hn : 6 < nl (t ⟨⟩) := ho.one.1.2.1
    have hg : gdTo (t ⟨⟩) 6 = true := ho.one.1.2.2.1
    have hb : gd (t ⟨⟩) 6 = false := ho.one.1.2.2.2
    have t0 : ltB (IntKind.wrap .i64 (IntKind.wrap .i64 (9 * m ⟨⟩) * c ⟨⟩)) (((t ⟨⟩).size : Nat) : Int) = false := by rw [h27, ltB_no]; omega
    have hln : ((IntKind.wrap .i64 (((((wds 10 (t ⟨⟩)).length : Nat)) : Int) - 1)).toNat - 0) = nl (t ⟨⟩) := by rw [hwr, Int.toNat_natCast]; omega
    have b0 : ltB 0 ((((IntKind.wrap .i64 (((((wds 10 (t ⟨⟩)).length : Nat)) : Int) - 1)).toNat - 0) : Nat) : Int) = true := by rw [hln, ltB_iff]; omega
    have x0 : (0 : Int) ≤ 0 ∧ (0 : Int) < ((((IntKind.wrap .i64 (((((wds 10 (t ⟨⟩)).length : Nat)) : Int) - 1)).toNat - 0) : Nat) : Int) := by rw [hln]; exact ⟨by omega, by omega⟩
    have y0 : 0 < ((wds 10 (t ⟨⟩)).map tx).length := by rw [List.length_map]; omega
    have z0 : m ⟨⟩ = ((3 : Nat) : Int) ∧ (((wds 10 (t ⟨⟩)).map tx).getD 0 ByteArray.empty).size ≤ 1048576 ∧ 3 ≤ 3 := ⟨hm, ln_size (t ⟨⟩) 0 hsz, by decide⟩
    have g0 : nrOk 3 (((wds 10 (t ⟨⟩)).map tx).getD 0 ByteArray.empty) = true := show gd (t ⟨⟩) 0 = true from allI_at hg (by omega)
    have b1 : ltB 1 ((((IntKind.wrap .i64 (((((wds 10 (t ⟨⟩)).length : Nat)) : Int) - 1)).toNat - 0) : Nat) : Int) = true := by rw [hln, ltB_iff]; omega
    have x1 : (0 : Int) ≤ 1 ∧ (1 : Int) < ((((IntKind.wrap .i64 (((((wds 10 (t ⟨⟩)).length : Nat)) : Int) - 1)).toNat - 0) : Nat) : Int) := by rw [hln]; exact ⟨by omega, by omega⟩
    have y1 : 1 < ((wds 10 (t ⟨⟩)).map tx).length := by rw [List.length_map]; omega
    have z1 : m ⟨⟩ = ((3 : Nat) : Int) ∧ (((wds 10 (t ⟨⟩)).map tx).getD 1 ByteArray.empty).size ≤ 1048576 ∧ 3 ≤ 3 := ⟨hm, ln_size (t ⟨⟩) 1 hsz, by decide⟩
    have g1 : nrOk 3 (((wds 10 (t ⟨⟩)).map tx).getD 1 ByteArray.empty) = true := show gd (t ⟨⟩) 1 = true from allI_at hg (by omega)
    have b2 : ltB 2 ((((IntKind.wrap .i64 (((((wds 10 (t ⟨⟩)).length : Nat)) : Int) - 1)).toNat - 0) : Nat) : Int) = true := by rw [hln, ltB_iff]; omega
    have x2 : (0 : Int) ≤ 2 ∧ (2 : Int) < ((((IntKind.wrap .i64 (((((wds 10 (t ⟨⟩)).length : Nat)) : Int) - 1)).toNat - 0) : Nat) : Int) := by rw [hln]; exact ⟨by omega, by omega⟩
    have y2 : 2 < ((wds 10 (t ⟨⟩)).map tx).length := by rw [List.length_map]; omega
    have z2 : m ⟨⟩ = ((3 : Nat) : Int) ∧ (((wds 10 (t ⟨⟩)).map tx).getD 2 ByteArray.empty).size ≤ 1048576 ∧ 3 ≤ 3 := ⟨hm, ln_size (t ⟨⟩) 2 hsz, by decide⟩
    have g2 : nrOk 3 (((wds 10 (t ⟨⟩)).map tx).getD 2 ByteArray.empty) = true := show gd (t ⟨⟩) 2 = true from allI_at hg (by omega)
    have b3 : ltB 3 ((((IntKind.wrap .i64 (((((wds 10 (t ⟨⟩)).length : Nat)) : Int) - 1)).toNat - 0) : Nat) : Int) = true := by rw [hln, ltB_iff]; omega
    have x3 : (0 : Int) ≤ 3 ∧ (3 : Int) < ((((IntKind.wrap .i64 (((((wds 10 (t ⟨⟩)).length : Nat)) : Int) - 1)).toNat - 0) : Nat) : Int) := by rw [hln]; exact ⟨by omega, by omega⟩
    have y3 : 3 < ((wds 10 (t ⟨⟩)).map tx).length := by rw [List.length_map]; omega
    have z3 : m ⟨⟩ = ((3 : Nat) : Int) ∧ (((wds 10 (t ⟨⟩)).map tx).getD 3 ByteArray.empty).size ≤ 1048576 ∧ 3 ≤ 3 := ⟨hm, ln_size (t ⟨⟩) 3 hsz, by decide⟩
    have g3 : nrOk 3 (((wds 10 (t ⟨⟩)).map tx).getD 3 ByteArray.empty) = true := show gd (t ⟨⟩) 3 = true from allI_at hg (by omega)
    have b4 : ltB 4 ((((IntKind.wrap .i64 (((((wds 10 (t ⟨⟩)).length : Nat)) : Int) - 1)).toNat - 0) : Nat) : Int) = true := by rw [hln, ltB_iff]; omega
    have x4 : (0 : Int) ≤ 4 ∧ (4 : Int) < ((((IntKind.wrap .i64 (((((wds 10 (t ⟨⟩)).length : Nat)) : Int) - 1)).toNat - 0) : Nat) : Int) := by rw [hln]; exact ⟨by omega, by omega⟩
    have y4 : 4 < ((wds 10 (t ⟨⟩)).map tx).length := by rw [List.length_map]; omega
    have z4 : m ⟨⟩ = ((3 : Nat) : Int) ∧ (((wds 10 (t ⟨⟩)).map tx).getD 4 ByteArray.empty).size ≤ 1048576 ∧ 3 ≤ 3 := ⟨hm, ln_size (t ⟨⟩) 4 hsz, by decide⟩
    have g4 : nrOk 3 (((wds 10 (t ⟨⟩)).map tx).getD 4 ByteArray.empty) = true := show gd (t ⟨⟩) 4 = true from allI_at hg (by omega)
    have b5 : ltB 5 ((((IntKind.wrap .i64 (((((wds 10 (t ⟨⟩)).length : Nat)) : Int) - 1)).toNat - 0) : Nat) : Int) = true := by rw [hln, ltB_iff]; omega
    have x5 : (0 : Int) ≤ 5 ∧ (5 : Int) < ((((IntKind.wrap .i64 (((((wds 10 (t ⟨⟩)).length : Nat)) : Int) - 1)).toNat - 0) : Nat) : Int) := by rw [hln]; exact ⟨by omega, by omega⟩
    have y5 : 5 < ((wds 10 (t ⟨⟩)).map tx).length := by rw [List.length_map]; omega
    have z5 : m ⟨⟩ = ((3 : Nat) : Int) ∧ (((wds 10 (t ⟨⟩)).map tx).getD 5 ByteArray.empty).size ≤ 1048576 ∧ 3 ≤ 3 := ⟨hm, ln_size (t ⟨⟩) 5 hsz, by decide⟩
    have g5 : nrOk 3 (((wds 10 (t ⟨⟩)).map tx).getD 5 ByteArray.empty) = true := show gd (t ⟨⟩) 5 = true from allI_at hg (by omega)
    have b6 : ltB 6 ((((IntKind.wrap .i64 (((((wds 10 (t ⟨⟩)).length : Nat)) : Int) - 1)).toNat - 0) : Nat) : Int) = true := by rw [hln, ltB_iff]; omega
    have x6 : (0 : Int) ≤ 6 ∧ (6 : Int) < ((((IntKind.wrap .i64 (((((wds 10 (t ⟨⟩)).length : Nat)) : Int) - 1)).toNat - 0) : Nat) : Int) := by rw [hln]; exact ⟨by omega, by omega⟩
    have y6 : 6 < ((wds 10 (t ⟨⟩)).map tx).length := by rw [List.length_map]; omega
    have z6 : m ⟨⟩ = ((3 : Nat) : Int) ∧ (((wds 10 (t ⟨⟩)).map tx).getD 6 ByteArray.empty).size ≤ 1048576 ∧ 3 ≤ 3 := ⟨hm, ln_size (t ⟨⟩) 6 hsz, by decide⟩
    have g6 : nrOk 3 (((wds 10 (t ⟨⟩)).map tx).getD 6 ByteArray.empty) = false := show gd (t ⟨⟩) 6 = false from hb
    refine ⟨_, HLe.refl _, ?_⟩
    cbv
    repeat' first | (refine Ob.mk ?_ ?_; (focus (first | exact hsp | exact hsl | exact x0 | exact y0 | exact z0 | exact g0 | exact x1 | exact y1 | exact z1 | exact g1 | exact x2 | exact y2 | exact z2 | exact g2 | exact x3 | exact y3 | exact z3 | exact g3 | exact x4 | exact y4 | exact z4 | exact g4 | exact x5 | exact y5 | exact z5 | exact g5 | exact x6 | exact y6 | exact z6 | exact g6 | exact rfl)); cbv) | (refine Br.f t0 ?_; cbv) | (refine Br.t b0 ?_; cbv) | (refine alt_t g0 ?_; cbv) | (refine Br.t b1 ?_; cbv) | (refine alt_t g1 ?_; cbv) | (refine Br.t b2 ?_; cbv) | (refine alt_t g2 ?_; cbv) | (refine Br.t b3 ?_; cbv) | (refine alt_t g3 ?_; cbv) | (refine Br.t b4 ?_; cbv) | (refine alt_t g4 ?_; cbv) | (refine Br.t b5 ?_; cbv) | (refine alt_t g5 ?_; cbv) | (refine Br.t b6 ?_; cbv) | (refine alt_f g6 ?_; cbv) | (refine Loop.mk 70 ?_; cbv) | (refine Gen.same ?_; cbv)
  · cases hs
set_option maxRecDepth 100000 in
set_option maxHeartbeats 8000000 in
theorem ok21B7 : Ok Tryd.prog 21 (sLF fun t => t.size ≤ 243 ∧ 7 < nl t ∧ gdTo t 7 = true ∧ gd t 7 = false) := ok_of_wpaH (E := E21) mixed tts E21ok fn21 fun args H v H' o hs ho => by
  split at hs
  · rename_i t m c
    cases hs
    have hsz : (t ⟨⟩).size ≤ 1048576 := ho.one.2.1
    have hm : m ⟨⟩ = 3 := ho.one.2.2.1
    have hc : c ⟨⟩ = 9 := ho.one.2.2.2
    have h27 : IntKind.wrap .i64 (IntKind.wrap .i64 (9 * m ⟨⟩) * c ⟨⟩) = 243 := by rw [hm, hc]; decide
    have hsp : ({ data := #[10] } : ByteArray) = ({ data := #[10] } : ByteArray) ∧ (t ⟨⟩).size < 4294967281 := ⟨rfl, by omega⟩
    have hpos := wds_pos 10 (t ⟨⟩)
    have hle := wds_le 10 (t ⟨⟩)
    have hwr : (IntKind.wrap .i64 (((((wds 10 (t ⟨⟩)).length : Nat)) : Int) - 1)) = ((nl (t ⟨⟩) : Nat) : Int) := by rw [wrap64 (by omega) (by omega)]; unfold nl; omega
    have hp : 0 + (IntKind.wrap .i64 (((((wds 10 (t ⟨⟩)).length : Nat)) : Int) - 1)).toNat * 1 = nl (t ⟨⟩) := by rw [hwr, Int.toNat_natCast]; omega
    have hsl : (0 : Int) ≤ 0 ∧ 0 ≤ (IntKind.wrap .i64 (((((wds 10 (t ⟨⟩)).length : Nat)) : Int) - 1)) ∧ (IntKind.wrap .i64 (((((wds 10 (t ⟨⟩)).length : Nat)) : Int) - 1)) ≤ ((((wds 10 (t ⟨⟩)).length : Nat)) : Int) := by rw [hwr]; unfold nl; omega
    have hnl : nl (t ⟨⟩) = (wds 10 (t ⟨⟩)).length - 1 := by unfold nl; rfl
    have h243 : (t ⟨⟩).size ≤ 243 := ho.one.1.1
    have hn : 7 < nl (t ⟨⟩) := ho.one.1.2.1
    have hg : gdTo (t ⟨⟩) 7 = true := ho.one.1.2.2.1
    have hb : gd (t ⟨⟩) 7 = false := ho.one.1.2.2.2
    have t0 : ltB (IntKind.wrap .i64 (IntKind.wrap .i64 (9 * m ⟨⟩) * c ⟨⟩)) (((t ⟨⟩).size : Nat) : Int) = false := by rw [h27, ltB_no]; omega
    have hln : ((IntKind.wrap .i64 (((((wds 10 (t ⟨⟩)).length : Nat)) : Int) - 1)).toNat - 0) = nl (t ⟨⟩) := by rw [hwr, Int.toNat_natCast]; omega
    have b0 : ltB 0 ((((IntKind.wrap .i64 (((((wds 10 (t ⟨⟩)).length : Nat)) : Int) - 1)).toNat - 0) : Nat) : Int) = true := by rw [hln, ltB_iff]; omega
    have x0 : (0 : Int) ≤ 0 ∧ (0 : Int) < ((((IntKind.wrap .i64 (((((wds 10 (t ⟨⟩)).length : Nat)) : Int) - 1)).toNat - 0) : Nat) : Int) := by rw [hln]; exact ⟨by omega, by omega⟩
    have y0 : 0 < ((wds 10 (t ⟨⟩)).map tx).length := by rw [List.length_map]; omega
    have z0 : m ⟨⟩ = ((3 : Nat) : Int) ∧ (((wds 10 (t ⟨⟩)).map tx).getD 0 ByteArray.empty).size ≤ 1048576 ∧ 3 ≤ 3 := ⟨hm, ln_size (t ⟨⟩) 0 hsz, by decide⟩
    have g0 : nrOk 3 (((wds 10 (t ⟨⟩)).map tx).getD 0 ByteArray.empty) = true := show gd (t ⟨⟩) 0 = true from allI_at hg (by omega)
    have b1 : ltB 1 ((((IntKind.wrap .i64 (((((wds 10 (t ⟨⟩)).length : Nat)) : Int) - 1)).toNat - 0) : Nat) : Int) = true := by rw [hln, ltB_iff]; omega
    have x1 : (0 : Int) ≤ 1 ∧ (1 : Int) < ((((IntKind.wrap .i64 (((((wds 10 (t ⟨⟩)).length : Nat)) : Int) - 1)).toNat - 0) : Nat) : Int) := by rw [hln]; exact ⟨by omega, by omega⟩
    have y1 : 1 < ((wds 10 (t ⟨⟩)).map tx).length := by rw [List.length_map]; omega
    have z1 : m ⟨⟩ = ((3 : Nat) : Int) ∧ (((wds 10 (t ⟨⟩)).map tx).getD 1 ByteArray.empty).size ≤ 1048576 ∧ 3 ≤ 3 := ⟨hm, ln_size (t ⟨⟩) 1 hsz, by decide⟩
    have g1 : nrOk 3 (((wds 10 (t ⟨⟩)).map tx).getD 1 ByteArray.empty) = true := show gd (t ⟨⟩) 1 = true from allI_at hg (by omega)
    have b2 : ltB 2 ((((IntKind.wrap .i64 (((((wds 10 (t ⟨⟩)).length : Nat)) : Int) - 1)).toNat - 0) : Nat) : Int) = true := by rw [hln, ltB_iff]; omega
    have x2 : (0 : Int) ≤ 2 ∧ (2 : Int) < ((((IntKind.wrap .i64 (((((wds 10 (t ⟨⟩)).length : Nat)) : Int) - 1)).toNat - 0) : Nat) : Int) := by rw [hln]; exact ⟨by omega, by omega⟩
    have y2 : 2 < ((wds 10 (t ⟨⟩)).map tx).length := by rw [List.length_map]; omega
    have z2 : m ⟨⟩ = ((3 : Nat) : Int) ∧ (((wds 10 (t ⟨⟩)).map tx).getD 2 ByteArray.empty).size ≤ 1048576 ∧ 3 ≤ 3 := ⟨hm, ln_size (t ⟨⟩) 2 hsz, by decide⟩
    have g2 : nrOk 3 (((wds 10 (t ⟨⟩)).map tx).getD 2 ByteArray.empty) = true := show gd (t ⟨⟩) 2 = true from allI_at hg (by omega)
    have b3 : ltB 3 ((((IntKind.wrap .i64 (((((wds 10 (t ⟨⟩)).length : Nat)) : Int) - 1)).toNat - 0) : Nat) : Int) = true := by rw [hln, ltB_iff]; omega
    have x3 : (0 : Int) ≤ 3 ∧ (3 : Int) < ((((IntKind.wrap .i64 (((((wds 10 (t ⟨⟩)).length : Nat)) : Int) - 1)).toNat - 0) : Nat) : Int) := by rw [hln]; exact ⟨by omega, by omega⟩
    have y3 : 3 < ((wds 10 (t ⟨⟩)).map tx).length := by rw [List.length_map]; omega
    have z3 : m ⟨⟩ = ((3 : Nat) : Int) ∧ (((wds 10 (t ⟨⟩)).map tx).getD 3 ByteArray.empty).size ≤ 1048576 ∧ 3 ≤ 3 := ⟨hm, ln_size (t ⟨⟩) 3 hsz, by decide⟩
    have g3 : nrOk 3 (((wds 10 (t ⟨⟩)).map tx).getD 3 ByteArray.empty) = true := show gd (t ⟨⟩) 3 = true from allI_at hg (by omega)
    have b4 : ltB 4 ((((IntKind.wrap .i64 (((((wds 10 (t ⟨⟩)).length : Nat)) : Int) - 1)).toNat - 0) : Nat) : Int) = true := by rw [hln, ltB_iff]; omega
    have x4 : (0 : Int) ≤ 4 ∧ (4 : Int) < ((((IntKind.wrap .i64 (((((wds 10 (t ⟨⟩)).length : Nat)) : Int) - 1)).toNat - 0) : Nat) : Int) := by rw [hln]; exact ⟨by omega, by omega⟩
    have y4 : 4 < ((wds 10 (t ⟨⟩)).map tx).length := by rw [List.length_map]; omega
    have z4 : m ⟨⟩ = ((3 : Nat) : Int) ∧ (((wds 10 (t ⟨⟩)).map tx).getD 4 ByteArray.empty).size ≤ 1048576 ∧ 3 ≤ 3 := ⟨hm, ln_size (t ⟨⟩) 4 hsz, by decide⟩
    have g4 : nrOk 3 (((wds 10 (t ⟨⟩)).map tx).getD 4 ByteArray.empty) = true := show gd (t ⟨⟩) 4 = true from allI_at hg (by omega)
    have b5 : ltB 5 ((((IntKind.wrap .i64 (((((wds 10 (t ⟨⟩)).length : Nat)) : Int) - 1)).toNat - 0) : Nat) : Int) = true := by rw [hln, ltB_iff]; omega
    have x5 : (0 : Int) ≤ 5 ∧ (5 : Int) < ((((IntKind.wrap .i64 (((((wds 10 (t ⟨⟩)).length : Nat)) : Int) - 1)).toNat - 0) : Nat) : Int) := by rw [hln]; exact ⟨by omega, by omega⟩
    have y5 : 5 < ((wds 10 (t ⟨⟩)).map tx).length := by rw [List.length_map]; omega
    have z5 : m ⟨⟩ = ((3 : Nat) : Int) ∧ (((wds 10 (t ⟨⟩)).map tx).getD 5 ByteArray.empty).size ≤ 1048576 ∧ 3 ≤ 3 := ⟨hm, ln_size (t ⟨⟩) 5 hsz, by decide⟩
    have g5 : nrOk 3 (((wds 10 (t ⟨⟩)).map tx).getD 5 ByteArray.empty) = true := show gd (t ⟨⟩) 5 = true from allI_at hg (by omega)
    have b6 : ltB 6 ((((IntKind.wrap .i64 (((((wds 10 (t ⟨⟩)).length : Nat)) : Int) - 1)).toNat - 0) : Nat) : Int) = true := by rw [hln, ltB_iff]; omega
    have x6 : (0 : Int) ≤ 6 ∧ (6 : Int) < ((((IntKind.wrap .i64 (((((wds 10 (t ⟨⟩)).length : Nat)) : Int) - 1)).toNat - 0) : Nat) : Int) := by rw [hln]; exact ⟨by omega, by omega⟩
    have y6 : 6 < ((wds 10 (t ⟨⟩)).map tx).length := by rw [List.length_map]; omega
    have z6 : m ⟨⟩ = ((3 : Nat) : Int) ∧ (((wds 10 (t ⟨⟩)).map tx).getD 6 ByteArray.empty).size ≤ 1048576 ∧ 3 ≤ 3 := ⟨hm, ln_size (t ⟨⟩) 6 hsz, by decide⟩
    have g6 : nrOk 3 (((wds 10 (t ⟨⟩)).map tx).getD 6 ByteArray.empty) = true := show gd (t ⟨⟩) 6 = true from allI_at hg (by omega)
    have b7 : ltB 7 ((((IntKind.wrap .i64 (((((wds 10 (t ⟨⟩)).length : Nat)) : Int) - 1)).toNat - 0) : Nat) : Int) = true := by rw [hln, ltB_iff]; omega
    have x7 : (0 : Int) ≤ 7 ∧ (7 : Int) < ((((IntKind.wrap .i64 (((((wds 10 (t ⟨⟩)).length : Nat)) : Int) - 1)).toNat - 0) : Nat) : Int) := by rw [hln]; exact ⟨by omega, by omega⟩
    have y7 : 7 < ((wds 10 (t ⟨⟩)).map tx).length := by rw [List.length_map]; omega
    have z7 : m ⟨⟩ = ((3 : Nat) : Int) ∧ (((wds 10 (t ⟨⟩)).map tx).getD 7 ByteArray.empty).size ≤ 1048576 ∧ 3 ≤ 3 := ⟨hm, ln_size (t ⟨⟩) 7 hsz, by decide⟩
    have g7 : nrOk 3 (((wds 10 (t ⟨⟩)).map tx).getD 7 ByteArray.empty) = false := show gd (t ⟨⟩) 7 = false from hb
    refine ⟨_, HLe.refl _, ?_⟩
    cbv
    repeat' first | (refine Ob.mk ?_ ?_; (focus (first | exact hsp | exact hsl | exact x0 | exact y0 | exact z0 | exact g0 | exact x1 | exact y1 | exact z1 | exact g1 | exact x2 | exact y2 | exact z2 | exact g2 | exact x3 | exact y3 | exact z3 | exact g3 | exact x4 | exact y4 | exact z4 | exact g4 | exact x5 | exact y5 | exact z5 | exact g5 | exact x6 | exact y6 | exact z6 | exact g6 | exact x7 | exact y7 | exact z7 | exact g7 | exact rfl)); cbv) | (refine Br.f t0 ?_; cbv) | (refine Br.t b0 ?_; cbv) | (refine alt_t g0 ?_; cbv) | (refine Br.t b1 ?_; cbv) | (refine alt_t g1 ?_; cbv) | (refine Br.t b2 ?_; cbv) | (refine alt_t g2 ?_; cbv) | (refine Br.t b3 ?_; cbv) | (refine alt_t g3 ?_; cbv) | (refine Br.t b4 ?_; cbv) | (refine alt_t g4 ?_; cbv) | (refine Br.t b5 ?_; cbv) | (refine alt_t g5 ?_; cbv) | (refine Br.t b6 ?_; cbv) | (refine alt_t g6 ?_; cbv) | (refine Br.t b7 ?_; cbv) | (refine alt_f g7 ?_; cbv) | (refine Loop.mk 70 ?_; cbv) | (refine Gen.same ?_; cbv)
  · cases hs
set_option maxRecDepth 100000 in
set_option maxHeartbeats 8000000 in
theorem ok21B8 : Ok Tryd.prog 21 (sLF fun t => t.size ≤ 243 ∧ 8 < nl t ∧ gdTo t 8 = true ∧ gd t 8 = false) := ok_of_wpaH (E := E21) mixed tts E21ok fn21 fun args H v H' o hs ho => by
  split at hs
  · rename_i t m c
    cases hs
    have hsz : (t ⟨⟩).size ≤ 1048576 := ho.one.2.1
    have hm : m ⟨⟩ = 3 := ho.one.2.2.1
    have hc : c ⟨⟩ = 9 := ho.one.2.2.2
    have h27 : IntKind.wrap .i64 (IntKind.wrap .i64 (9 * m ⟨⟩) * c ⟨⟩) = 243 := by rw [hm, hc]; decide
    have hsp : ({ data := #[10] } : ByteArray) = ({ data := #[10] } : ByteArray) ∧ (t ⟨⟩).size < 4294967281 := ⟨rfl, by omega⟩
    have hpos := wds_pos 10 (t ⟨⟩)
    have hle := wds_le 10 (t ⟨⟩)
    have hwr : (IntKind.wrap .i64 (((((wds 10 (t ⟨⟩)).length : Nat)) : Int) - 1)) = ((nl (t ⟨⟩) : Nat) : Int) := by rw [wrap64 (by omega) (by omega)]; unfold nl; omega
    have hp : 0 + (IntKind.wrap .i64 (((((wds 10 (t ⟨⟩)).length : Nat)) : Int) - 1)).toNat * 1 = nl (t ⟨⟩) := by rw [hwr, Int.toNat_natCast]; omega
    have hsl : (0 : Int) ≤ 0 ∧ 0 ≤ (IntKind.wrap .i64 (((((wds 10 (t ⟨⟩)).length : Nat)) : Int) - 1)) ∧ (IntKind.wrap .i64 (((((wds 10 (t ⟨⟩)).length : Nat)) : Int) - 1)) ≤ ((((wds 10 (t ⟨⟩)).length : Nat)) : Int) := by rw [hwr]; unfold nl; omega
    have hnl : nl (t ⟨⟩) = (wds 10 (t ⟨⟩)).length - 1 := by unfold nl; rfl
    have h243 : (t ⟨⟩).size ≤ 243 := ho.one.1.1
    have hn : 8 < nl (t ⟨⟩) := ho.one.1.2.1
    have hg : gdTo (t ⟨⟩) 8 = true := ho.one.1.2.2.1
    have hb : gd (t ⟨⟩) 8 = false := ho.one.1.2.2.2
    have t0 : ltB (IntKind.wrap .i64 (IntKind.wrap .i64 (9 * m ⟨⟩) * c ⟨⟩)) (((t ⟨⟩).size : Nat) : Int) = false := by rw [h27, ltB_no]; omega
    have hln : ((IntKind.wrap .i64 (((((wds 10 (t ⟨⟩)).length : Nat)) : Int) - 1)).toNat - 0) = nl (t ⟨⟩) := by rw [hwr, Int.toNat_natCast]; omega
    have b0 : ltB 0 ((((IntKind.wrap .i64 (((((wds 10 (t ⟨⟩)).length : Nat)) : Int) - 1)).toNat - 0) : Nat) : Int) = true := by rw [hln, ltB_iff]; omega
    have x0 : (0 : Int) ≤ 0 ∧ (0 : Int) < ((((IntKind.wrap .i64 (((((wds 10 (t ⟨⟩)).length : Nat)) : Int) - 1)).toNat - 0) : Nat) : Int) := by rw [hln]; exact ⟨by omega, by omega⟩
    have y0 : 0 < ((wds 10 (t ⟨⟩)).map tx).length := by rw [List.length_map]; omega
    have z0 : m ⟨⟩ = ((3 : Nat) : Int) ∧ (((wds 10 (t ⟨⟩)).map tx).getD 0 ByteArray.empty).size ≤ 1048576 ∧ 3 ≤ 3 := ⟨hm, ln_size (t ⟨⟩) 0 hsz, by decide⟩
    have g0 : nrOk 3 (((wds 10 (t ⟨⟩)).map tx).getD 0 ByteArray.empty) = true := show gd (t ⟨⟩) 0 = true from allI_at hg (by omega)
    have b1 : ltB 1 ((((IntKind.wrap .i64 (((((wds 10 (t ⟨⟩)).length : Nat)) : Int) - 1)).toNat - 0) : Nat) : Int) = true := by rw [hln, ltB_iff]; omega
    have x1 : (0 : Int) ≤ 1 ∧ (1 : Int) < ((((IntKind.wrap .i64 (((((wds 10 (t ⟨⟩)).length : Nat)) : Int) - 1)).toNat - 0) : Nat) : Int) := by rw [hln]; exact ⟨by omega, by omega⟩
    have y1 : 1 < ((wds 10 (t ⟨⟩)).map tx).length := by rw [List.length_map]; omega
    have z1 : m ⟨⟩ = ((3 : Nat) : Int) ∧ (((wds 10 (t ⟨⟩)).map tx).getD 1 ByteArray.empty).size ≤ 1048576 ∧ 3 ≤ 3 := ⟨hm, ln_size (t ⟨⟩) 1 hsz, by decide⟩
    have g1 : nrOk 3 (((wds 10 (t ⟨⟩)).map tx).getD 1 ByteArray.empty) = true := show gd (t ⟨⟩) 1 = true from allI_at hg (by omega)
    have b2 : ltB 2 ((((IntKind.wrap .i64 (((((wds 10 (t ⟨⟩)).length : Nat)) : Int) - 1)).toNat - 0) : Nat) : Int) = true := by rw [hln, ltB_iff]; omega
    have x2 : (0 : Int) ≤ 2 ∧ (2 : Int) < ((((IntKind.wrap .i64 (((((wds 10 (t ⟨⟩)).length : Nat)) : Int) - 1)).toNat - 0) : Nat) : Int) := by rw [hln]; exact ⟨by omega, by omega⟩
    have y2 : 2 < ((wds 10 (t ⟨⟩)).map tx).length := by rw [List.length_map]; omega
    have z2 : m ⟨⟩ = ((3 : Nat) : Int) ∧ (((wds 10 (t ⟨⟩)).map tx).getD 2 ByteArray.empty).size ≤ 1048576 ∧ 3 ≤ 3 := ⟨hm, ln_size (t ⟨⟩) 2 hsz, by decide⟩
    have g2 : nrOk 3 (((wds 10 (t ⟨⟩)).map tx).getD 2 ByteArray.empty) = true := show gd (t ⟨⟩) 2 = true from allI_at hg (by omega)
    have b3 : ltB 3 ((((IntKind.wrap .i64 (((((wds 10 (t ⟨⟩)).length : Nat)) : Int) - 1)).toNat - 0) : Nat) : Int) = true := by rw [hln, ltB_iff]; omega
    have x3 : (0 : Int) ≤ 3 ∧ (3 : Int) < ((((IntKind.wrap .i64 (((((wds 10 (t ⟨⟩)).length : Nat)) : Int) - 1)).toNat - 0) : Nat) : Int) := by rw [hln]; exact ⟨by omega, by omega⟩
    have y3 : 3 < ((wds 10 (t ⟨⟩)).map tx).length := by rw [List.length_map]; omega
    have z3 : m ⟨⟩ = ((3 : Nat) : Int) ∧ (((wds 10 (t ⟨⟩)).map tx).getD 3 ByteArray.empty).size ≤ 1048576 ∧ 3 ≤ 3 := ⟨hm, ln_size (t ⟨⟩) 3 hsz, by decide⟩
    have g3 : nrOk 3 (((wds 10 (t ⟨⟩)).map tx).getD 3 ByteArray.empty) = true := show gd (t ⟨⟩) 3 = true from allI_at hg (by omega)
    have b4 : ltB 4 ((((IntKind.wrap .i64 (((((wds 10 (t ⟨⟩)).length : Nat)) : Int) - 1)).toNat - 0) : Nat) : Int) = true := by rw [hln, ltB_iff]; omega
    have x4 : (0 : Int) ≤ 4 ∧ (4 : Int) < ((((IntKind.wrap .i64 (((((wds 10 (t ⟨⟩)).length : Nat)) : Int) - 1)).toNat - 0) : Nat) : Int) := by rw [hln]; exact ⟨by omega, by omega⟩
    have y4 : 4 < ((wds 10 (t ⟨⟩)).map tx).length := by rw [List.length_map]; omega
    have z4 : m ⟨⟩ = ((3 : Nat) : Int) ∧ (((wds 10 (t ⟨⟩)).map tx).getD 4 ByteArray.empty).size ≤ 1048576 ∧ 3 ≤ 3 := ⟨hm, ln_size (t ⟨⟩) 4 hsz, by decide⟩
    have g4 : nrOk 3 (((wds 10 (t ⟨⟩)).map tx).getD 4 ByteArray.empty) = true := show gd (t ⟨⟩) 4 = true from allI_at hg (by omega)
    have b5 : ltB 5 ((((IntKind.wrap .i64 (((((wds 10 (t ⟨⟩)).length : Nat)) : Int) - 1)).toNat - 0) : Nat) : Int) = true := by rw [hln, ltB_iff]; omega
    have x5 : (0 : Int) ≤ 5 ∧ (5 : Int) < ((((IntKind.wrap .i64 (((((wds 10 (t ⟨⟩)).length : Nat)) : Int) - 1)).toNat - 0) : Nat) : Int) := by rw [hln]; exact ⟨by omega, by omega⟩
    have y5 : 5 < ((wds 10 (t ⟨⟩)).map tx).length := by rw [List.length_map]; omega
    have z5 : m ⟨⟩ = ((3 : Nat) : Int) ∧ (((wds 10 (t ⟨⟩)).map tx).getD 5 ByteArray.empty).size ≤ 1048576 ∧ 3 ≤ 3 := ⟨hm, ln_size (t ⟨⟩) 5 hsz, by decide⟩
    have g5 : nrOk 3 (((wds 10 (t ⟨⟩)).map tx).getD 5 ByteArray.empty) = true := show gd (t ⟨⟩) 5 = true from allI_at hg (by omega)
    have b6 : ltB 6 ((((IntKind.wrap .i64 (((((wds 10 (t ⟨⟩)).length : Nat)) : Int) - 1)).toNat - 0) : Nat) : Int) = true := by rw [hln, ltB_iff]; omega
    have x6 : (0 : Int) ≤ 6 ∧ (6 : Int) < ((((IntKind.wrap .i64 (((((wds 10 (t ⟨⟩)).length : Nat)) : Int) - 1)).toNat - 0) : Nat) : Int) := by rw [hln]; exact ⟨by omega, by omega⟩
    have y6 : 6 < ((wds 10 (t ⟨⟩)).map tx).length := by rw [List.length_map]; omega
    have z6 : m ⟨⟩ = ((3 : Nat) : Int) ∧ (((wds 10 (t ⟨⟩)).map tx).getD 6 ByteArray.empty).size ≤ 1048576 ∧ 3 ≤ 3 := ⟨hm, ln_size (t ⟨⟩) 6 hsz, by decide⟩
    have g6 : nrOk 3 (((wds 10 (t ⟨⟩)).map tx).getD 6 ByteArray.empty) = true := show gd (t ⟨⟩) 6 = true from allI_at hg (by omega)
    have b7 : ltB 7 ((((IntKind.wrap .i64 (((((wds 10 (t ⟨⟩)).length : Nat)) : Int) - 1)).toNat - 0) : Nat) : Int) = true := by rw [hln, ltB_iff]; omega
    have x7 : (0 : Int) ≤ 7 ∧ (7 : Int) < ((((IntKind.wrap .i64 (((((wds 10 (t ⟨⟩)).length : Nat)) : Int) - 1)).toNat - 0) : Nat) : Int) := by rw [hln]; exact ⟨by omega, by omega⟩
    have y7 : 7 < ((wds 10 (t ⟨⟩)).map tx).length := by rw [List.length_map]; omega
    have z7 : m ⟨⟩ = ((3 : Nat) : Int) ∧ (((wds 10 (t ⟨⟩)).map tx).getD 7 ByteArray.empty).size ≤ 1048576 ∧ 3 ≤ 3 := ⟨hm, ln_size (t ⟨⟩) 7 hsz, by decide⟩
    have g7 : nrOk 3 (((wds 10 (t ⟨⟩)).map tx).getD 7 ByteArray.empty) = true := show gd (t ⟨⟩) 7 = true from allI_at hg (by omega)
    have b8 : ltB 8 ((((IntKind.wrap .i64 (((((wds 10 (t ⟨⟩)).length : Nat)) : Int) - 1)).toNat - 0) : Nat) : Int) = true := by rw [hln, ltB_iff]; omega
    have x8 : (0 : Int) ≤ 8 ∧ (8 : Int) < ((((IntKind.wrap .i64 (((((wds 10 (t ⟨⟩)).length : Nat)) : Int) - 1)).toNat - 0) : Nat) : Int) := by rw [hln]; exact ⟨by omega, by omega⟩
    have y8 : 8 < ((wds 10 (t ⟨⟩)).map tx).length := by rw [List.length_map]; omega
    have z8 : m ⟨⟩ = ((3 : Nat) : Int) ∧ (((wds 10 (t ⟨⟩)).map tx).getD 8 ByteArray.empty).size ≤ 1048576 ∧ 3 ≤ 3 := ⟨hm, ln_size (t ⟨⟩) 8 hsz, by decide⟩
    have g8 : nrOk 3 (((wds 10 (t ⟨⟩)).map tx).getD 8 ByteArray.empty) = false := show gd (t ⟨⟩) 8 = false from hb
    refine ⟨_, HLe.refl _, ?_⟩
    cbv
    repeat' first | (refine Ob.mk ?_ ?_; (focus (first | exact hsp | exact hsl | exact x0 | exact y0 | exact z0 | exact g0 | exact x1 | exact y1 | exact z1 | exact g1 | exact x2 | exact y2 | exact z2 | exact g2 | exact x3 | exact y3 | exact z3 | exact g3 | exact x4 | exact y4 | exact z4 | exact g4 | exact x5 | exact y5 | exact z5 | exact g5 | exact x6 | exact y6 | exact z6 | exact g6 | exact x7 | exact y7 | exact z7 | exact g7 | exact x8 | exact y8 | exact z8 | exact g8 | exact rfl)); cbv) | (refine Br.f t0 ?_; cbv) | (refine Br.t b0 ?_; cbv) | (refine alt_t g0 ?_; cbv) | (refine Br.t b1 ?_; cbv) | (refine alt_t g1 ?_; cbv) | (refine Br.t b2 ?_; cbv) | (refine alt_t g2 ?_; cbv) | (refine Br.t b3 ?_; cbv) | (refine alt_t g3 ?_; cbv) | (refine Br.t b4 ?_; cbv) | (refine alt_t g4 ?_; cbv) | (refine Br.t b5 ?_; cbv) | (refine alt_t g5 ?_; cbv) | (refine Br.t b6 ?_; cbv) | (refine alt_t g6 ?_; cbv) | (refine Br.t b7 ?_; cbv) | (refine alt_t g7 ?_; cbv) | (refine Br.t b8 ?_; cbv) | (refine alt_f g8 ?_; cbv) | (refine Loop.mk 70 ?_; cbv) | (refine Gen.same ?_; cbv)
  · cases hs
end Go.Proofs.YteifneielgnniaaDoor.Sh
end
section
namespace Go.Proofs.YteifneielgnniaaDoor.Sh
open Go Go.Proofs
attribute [local irreducible] wds tx rn rnC rnOk nrOk v3a v3b v3c wAt n3 webOk spL tl nl wOk
set_option maxRecDepth 100000 in
set_option maxHeartbeats 8000000 in
theorem ok21K0 : Ok Tryd.prog 21 (sLT0 fun t => t.size ≤ 243 ∧ nl t = 0 ∧ gdTo t 0 = true) := ok_of_wpaH (E := E21) mixed tts E21ok fn21 fun args H v H' o hs ho => by
  split at hs
  · rename_i t m c
    cases hs
    have hsz : (t ⟨⟩).size ≤ 1048576 := ho.one.2.1
    have hm : m ⟨⟩ = 3 := ho.one.2.2.1
    have hc : c ⟨⟩ = 9 := ho.one.2.2.2
    have h27 : IntKind.wrap .i64 (IntKind.wrap .i64 (9 * m ⟨⟩) * c ⟨⟩) = 243 := by rw [hm, hc]; decide
    have hsp : ({ data := #[10] } : ByteArray) = ({ data := #[10] } : ByteArray) ∧ (t ⟨⟩).size < 4294967281 := ⟨rfl, by omega⟩
    have hpos := wds_pos 10 (t ⟨⟩)
    have hle := wds_le 10 (t ⟨⟩)
    have hwr : (IntKind.wrap .i64 (((((wds 10 (t ⟨⟩)).length : Nat)) : Int) - 1)) = ((nl (t ⟨⟩) : Nat) : Int) := by rw [wrap64 (by omega) (by omega)]; unfold nl; omega
    have hp : 0 + (IntKind.wrap .i64 (((((wds 10 (t ⟨⟩)).length : Nat)) : Int) - 1)).toNat * 1 = nl (t ⟨⟩) := by rw [hwr, Int.toNat_natCast]; omega
    have hsl : (0 : Int) ≤ 0 ∧ 0 ≤ (IntKind.wrap .i64 (((((wds 10 (t ⟨⟩)).length : Nat)) : Int) - 1)) ∧ (IntKind.wrap .i64 (((((wds 10 (t ⟨⟩)).length : Nat)) : Int) - 1)) ≤ ((((wds 10 (t ⟨⟩)).length : Nat)) : Int) := by rw [hwr]; unfold nl; omega
    have hnl : nl (t ⟨⟩) = (wds 10 (t ⟨⟩)).length - 1 := by unfold nl; rfl
    have h243 : (t ⟨⟩).size ≤ 243 := ho.one.1.1
    have hn : nl (t ⟨⟩) = 0 := ho.one.1.2.1
    have hg : gdTo (t ⟨⟩) 0 = true := ho.one.1.2.2
    have t0 : ltB (IntKind.wrap .i64 (IntKind.wrap .i64 (9 * m ⟨⟩) * c ⟨⟩)) (((t ⟨⟩).size : Nat) : Int) = false := by rw [h27, ltB_no]; omega
    have hln : ((IntKind.wrap .i64 (((((wds 10 (t ⟨⟩)).length : Nat)) : Int) - 1)).toNat - 0) = nl (t ⟨⟩) := by rw [hwr, Int.toNat_natCast]; omega
    have be : ltB 0 ((((IntKind.wrap .i64 (((((wds 10 (t ⟨⟩)).length : Nat)) : Int) - 1)).toNat - 0) : Nat) : Int) = false := by rw [hln, ltB_no]; omega
    have htl : ((((wds 10 (t ⟨⟩)).map tx).getD (0 + (IntKind.wrap .i64 (((((wds 10 (t ⟨⟩)).length : Nat)) : Int) - 1)).toNat * 1) ByteArray.empty).toList == ({ data := #[] } : ByteArray).toList) = tl (t ⟨⟩) := by rw [hp]; exact tl_form _
    have hx0 : 0 ≤ (IntKind.wrap .i64 (((((wds 10 (t ⟨⟩)).length : Nat)) : Int) - 1)) ∧ (IntKind.wrap .i64 (((((wds 10 (t ⟨⟩)).length : Nat)) : Int) - 1)) < ((((wds 10 (t ⟨⟩)).length : Nat)) : Int) := by rw [hwr]; omega
    have hx1 : 0 + (IntKind.wrap .i64 (((((wds 10 (t ⟨⟩)).length : Nat)) : Int) - 1)).toNat * 1 < ((wds 10 (t ⟨⟩)).map tx).length := by rw [hp, List.length_map]; omega
    refine ⟨_, HLe.refl _, ?_⟩
    cbv
    repeat' first | (refine Ob.mk ?_ ?_; (focus (first | exact hsp | exact hsl | exact htl | exact hx0 | exact hx1 | exact rfl)); cbv) | (refine Br.f t0 ?_; cbv) | (refine Loop.mk 70 ?_; cbv) | (refine Gen.same ?_; cbv) | (refine Br.f be ?_; cbv) | (refine Lex.mk (by kernel_rfl) ?_; cbv)
  · cases hs
end Go.Proofs.YteifneielgnniaaDoor.Sh
end
section
namespace Go.Proofs.YteifneielgnniaaDoor.Sh
open Go Go.Proofs
attribute [local irreducible] wds tx rn rnC rnOk nrOk v3a v3b v3c wAt n3 webOk spL tl nl wOk
set_option maxRecDepth 100000 in
set_option maxHeartbeats 8000000 in
theorem ok21K1 : Ok Tryd.prog 21 (sLT1 fun t => t.size ≤ 243 ∧ nl t = 1 ∧ gdTo t 1 = true) := ok_of_wpaH (E := E21) mixed tts E21ok fn21 fun args H v H' o hs ho => by
  split at hs
  · rename_i t m c
    cases hs
    have hsz : (t ⟨⟩).size ≤ 1048576 := ho.one.2.1
    have hm : m ⟨⟩ = 3 := ho.one.2.2.1
    have hc : c ⟨⟩ = 9 := ho.one.2.2.2
    have h27 : IntKind.wrap .i64 (IntKind.wrap .i64 (9 * m ⟨⟩) * c ⟨⟩) = 243 := by rw [hm, hc]; decide
    have hsp : ({ data := #[10] } : ByteArray) = ({ data := #[10] } : ByteArray) ∧ (t ⟨⟩).size < 4294967281 := ⟨rfl, by omega⟩
    have hpos := wds_pos 10 (t ⟨⟩)
    have hle := wds_le 10 (t ⟨⟩)
    have hwr : (IntKind.wrap .i64 (((((wds 10 (t ⟨⟩)).length : Nat)) : Int) - 1)) = ((nl (t ⟨⟩) : Nat) : Int) := by rw [wrap64 (by omega) (by omega)]; unfold nl; omega
    have hp : 0 + (IntKind.wrap .i64 (((((wds 10 (t ⟨⟩)).length : Nat)) : Int) - 1)).toNat * 1 = nl (t ⟨⟩) := by rw [hwr, Int.toNat_natCast]; omega
    have hsl : (0 : Int) ≤ 0 ∧ 0 ≤ (IntKind.wrap .i64 (((((wds 10 (t ⟨⟩)).length : Nat)) : Int) - 1)) ∧ (IntKind.wrap .i64 (((((wds 10 (t ⟨⟩)).length : Nat)) : Int) - 1)) ≤ ((((wds 10 (t ⟨⟩)).length : Nat)) : Int) := by rw [hwr]; unfold nl; omega
    have hnl : nl (t ⟨⟩) = (wds 10 (t ⟨⟩)).length - 1 := by unfold nl; rfl
    have h243 : (t ⟨⟩).size ≤ 243 := ho.one.1.1
    have hn : nl (t ⟨⟩) = 1 := ho.one.1.2.1
    have hg : gdTo (t ⟨⟩) 1 = true := ho.one.1.2.2
    have t0 : ltB (IntKind.wrap .i64 (IntKind.wrap .i64 (9 * m ⟨⟩) * c ⟨⟩)) (((t ⟨⟩).size : Nat) : Int) = false := by rw [h27, ltB_no]; omega
    have hln : ((IntKind.wrap .i64 (((((wds 10 (t ⟨⟩)).length : Nat)) : Int) - 1)).toNat - 0) = nl (t ⟨⟩) := by rw [hwr, Int.toNat_natCast]; omega
    have b0 : ltB 0 ((((IntKind.wrap .i64 (((((wds 10 (t ⟨⟩)).length : Nat)) : Int) - 1)).toNat - 0) : Nat) : Int) = true := by rw [hln, ltB_iff]; omega
    have x0 : (0 : Int) ≤ 0 ∧ (0 : Int) < ((((IntKind.wrap .i64 (((((wds 10 (t ⟨⟩)).length : Nat)) : Int) - 1)).toNat - 0) : Nat) : Int) := by rw [hln]; exact ⟨by omega, by omega⟩
    have y0 : 0 < ((wds 10 (t ⟨⟩)).map tx).length := by rw [List.length_map]; omega
    have z0 : m ⟨⟩ = ((3 : Nat) : Int) ∧ (((wds 10 (t ⟨⟩)).map tx).getD 0 ByteArray.empty).size ≤ 1048576 ∧ 3 ≤ 3 := ⟨hm, ln_size (t ⟨⟩) 0 hsz, by decide⟩
    have g0 : nrOk 3 (((wds 10 (t ⟨⟩)).map tx).getD 0 ByteArray.empty) = true := show gd (t ⟨⟩) 0 = true from allI_at hg (by omega)
    have be : ltB 1 ((((IntKind.wrap .i64 (((((wds 10 (t ⟨⟩)).length : Nat)) : Int) - 1)).toNat - 0) : Nat) : Int) = false := by rw [hln, ltB_no]; omega
    have htl : ((((wds 10 (t ⟨⟩)).map tx).getD (0 + (IntKind.wrap .i64 (((((wds 10 (t ⟨⟩)).length : Nat)) : Int) - 1)).toNat * 1) ByteArray.empty).toList == ({ data := #[] } : ByteArray).toList) = tl (t ⟨⟩) := by rw [hp]; exact tl_form _
    have hx0 : 0 ≤ (IntKind.wrap .i64 (((((wds 10 (t ⟨⟩)).length : Nat)) : Int) - 1)) ∧ (IntKind.wrap .i64 (((((wds 10 (t ⟨⟩)).length : Nat)) : Int) - 1)) < ((((wds 10 (t ⟨⟩)).length : Nat)) : Int) := by rw [hwr]; omega
    have hx1 : 0 + (IntKind.wrap .i64 (((((wds 10 (t ⟨⟩)).length : Nat)) : Int) - 1)).toNat * 1 < ((wds 10 (t ⟨⟩)).map tx).length := by rw [hp, List.length_map]; omega
    refine ⟨_, HLe.refl _, ?_⟩
    cbv
    repeat' first | (refine Ob.mk ?_ ?_; (focus (first | exact hsp | exact hsl | exact x0 | exact y0 | exact z0 | exact g0 | exact htl | exact hx0 | exact hx1 | exact rfl)); cbv) | (refine Br.f t0 ?_; cbv) | (refine Br.t b0 ?_; cbv) | (refine alt_t g0 ?_; cbv) | (refine Loop.mk 70 ?_; cbv) | (refine Gen.same ?_; cbv) | (refine Br.f be ?_; cbv) | (refine Lex.mk (by kernel_rfl) ?_; cbv)
  · cases hs
end Go.Proofs.YteifneielgnniaaDoor.Sh
end
section
namespace Go.Proofs.YteifneielgnniaaDoor.Sh
open Go Go.Proofs
attribute [local irreducible] wds tx rn rnC rnOk nrOk v3a v3b v3c wAt n3 webOk spL tl nl wOk
set_option maxRecDepth 100000 in
set_option maxHeartbeats 8000000 in
theorem ok21K2 : Ok Tryd.prog 21 (sLT2 fun t => t.size ≤ 243 ∧ nl t = 2 ∧ gdTo t 2 = true) := ok_of_wpaH (E := E21) mixed tts E21ok fn21 fun args H v H' o hs ho => by
  split at hs
  · rename_i t m c
    cases hs
    have hsz : (t ⟨⟩).size ≤ 1048576 := ho.one.2.1
    have hm : m ⟨⟩ = 3 := ho.one.2.2.1
    have hc : c ⟨⟩ = 9 := ho.one.2.2.2
    have h27 : IntKind.wrap .i64 (IntKind.wrap .i64 (9 * m ⟨⟩) * c ⟨⟩) = 243 := by rw [hm, hc]; decide
    have hsp : ({ data := #[10] } : ByteArray) = ({ data := #[10] } : ByteArray) ∧ (t ⟨⟩).size < 4294967281 := ⟨rfl, by omega⟩
    have hpos := wds_pos 10 (t ⟨⟩)
    have hle := wds_le 10 (t ⟨⟩)
    have hwr : (IntKind.wrap .i64 (((((wds 10 (t ⟨⟩)).length : Nat)) : Int) - 1)) = ((nl (t ⟨⟩) : Nat) : Int) := by rw [wrap64 (by omega) (by omega)]; unfold nl; omega
    have hp : 0 + (IntKind.wrap .i64 (((((wds 10 (t ⟨⟩)).length : Nat)) : Int) - 1)).toNat * 1 = nl (t ⟨⟩) := by rw [hwr, Int.toNat_natCast]; omega
    have hsl : (0 : Int) ≤ 0 ∧ 0 ≤ (IntKind.wrap .i64 (((((wds 10 (t ⟨⟩)).length : Nat)) : Int) - 1)) ∧ (IntKind.wrap .i64 (((((wds 10 (t ⟨⟩)).length : Nat)) : Int) - 1)) ≤ ((((wds 10 (t ⟨⟩)).length : Nat)) : Int) := by rw [hwr]; unfold nl; omega
    have hnl : nl (t ⟨⟩) = (wds 10 (t ⟨⟩)).length - 1 := by unfold nl; rfl
    have h243 : (t ⟨⟩).size ≤ 243 := ho.one.1.1
    have hn : nl (t ⟨⟩) = 2 := ho.one.1.2.1
    have hg : gdTo (t ⟨⟩) 2 = true := ho.one.1.2.2
    have t0 : ltB (IntKind.wrap .i64 (IntKind.wrap .i64 (9 * m ⟨⟩) * c ⟨⟩)) (((t ⟨⟩).size : Nat) : Int) = false := by rw [h27, ltB_no]; omega
    have hln : ((IntKind.wrap .i64 (((((wds 10 (t ⟨⟩)).length : Nat)) : Int) - 1)).toNat - 0) = nl (t ⟨⟩) := by rw [hwr, Int.toNat_natCast]; omega
    have b0 : ltB 0 ((((IntKind.wrap .i64 (((((wds 10 (t ⟨⟩)).length : Nat)) : Int) - 1)).toNat - 0) : Nat) : Int) = true := by rw [hln, ltB_iff]; omega
    have x0 : (0 : Int) ≤ 0 ∧ (0 : Int) < ((((IntKind.wrap .i64 (((((wds 10 (t ⟨⟩)).length : Nat)) : Int) - 1)).toNat - 0) : Nat) : Int) := by rw [hln]; exact ⟨by omega, by omega⟩
    have y0 : 0 < ((wds 10 (t ⟨⟩)).map tx).length := by rw [List.length_map]; omega
    have z0 : m ⟨⟩ = ((3 : Nat) : Int) ∧ (((wds 10 (t ⟨⟩)).map tx).getD 0 ByteArray.empty).size ≤ 1048576 ∧ 3 ≤ 3 := ⟨hm, ln_size (t ⟨⟩) 0 hsz, by decide⟩
    have g0 : nrOk 3 (((wds 10 (t ⟨⟩)).map tx).getD 0 ByteArray.empty) = true := show gd (t ⟨⟩) 0 = true from allI_at hg (by omega)
    have b1 : ltB 1 ((((IntKind.wrap .i64 (((((wds 10 (t ⟨⟩)).length : Nat)) : Int) - 1)).toNat - 0) : Nat) : Int) = true := by rw [hln, ltB_iff]; omega
    have x1 : (0 : Int) ≤ 1 ∧ (1 : Int) < ((((IntKind.wrap .i64 (((((wds 10 (t ⟨⟩)).length : Nat)) : Int) - 1)).toNat - 0) : Nat) : Int) := by rw [hln]; exact ⟨by omega, by omega⟩
    have y1 : 1 < ((wds 10 (t ⟨⟩)).map tx).length := by rw [List.length_map]; omega
    have z1 : m ⟨⟩ = ((3 : Nat) : Int) ∧ (((wds 10 (t ⟨⟩)).map tx).getD 1 ByteArray.empty).size ≤ 1048576 ∧ 3 ≤ 3 := ⟨hm, ln_size (t ⟨⟩) 1 hsz, by decide⟩
    have g1 : nrOk 3 (((wds 10 (t ⟨⟩)).map tx).getD 1 ByteArray.empty) = true := show gd (t ⟨⟩) 1 = true from allI_at hg (by omega)
    have be : ltB 2 ((((IntKind.wrap .i64 (((((wds 10 (t ⟨⟩)).length : Nat)) : Int) - 1)).toNat - 0) : Nat) : Int) = false := by rw [hln, ltB_no]; omega
    have htl : ((((wds 10 (t ⟨⟩)).map tx).getD (0 + (IntKind.wrap .i64 (((((wds 10 (t ⟨⟩)).length : Nat)) : Int) - 1)).toNat * 1) ByteArray.empty).toList == ({ data := #[] } : ByteArray).toList) = tl (t ⟨⟩) := by rw [hp]; exact tl_form _
    have hx0 : 0 ≤ (IntKind.wrap .i64 (((((wds 10 (t ⟨⟩)).length : Nat)) : Int) - 1)) ∧ (IntKind.wrap .i64 (((((wds 10 (t ⟨⟩)).length : Nat)) : Int) - 1)) < ((((wds 10 (t ⟨⟩)).length : Nat)) : Int) := by rw [hwr]; omega
    have hx1 : 0 + (IntKind.wrap .i64 (((((wds 10 (t ⟨⟩)).length : Nat)) : Int) - 1)).toNat * 1 < ((wds 10 (t ⟨⟩)).map tx).length := by rw [hp, List.length_map]; omega
    refine ⟨_, HLe.refl _, ?_⟩
    cbv
    repeat' first | (refine Ob.mk ?_ ?_; (focus (first | exact hsp | exact hsl | exact x0 | exact y0 | exact z0 | exact g0 | exact x1 | exact y1 | exact z1 | exact g1 | exact htl | exact hx0 | exact hx1 | exact rfl)); cbv) | (refine Br.f t0 ?_; cbv) | (refine Br.t b0 ?_; cbv) | (refine alt_t g0 ?_; cbv) | (refine Br.t b1 ?_; cbv) | (refine alt_t g1 ?_; cbv) | (refine Loop.mk 70 ?_; cbv) | (refine Gen.same ?_; cbv) | (refine Br.f be ?_; cbv) | (refine Lex.mk (by kernel_rfl) ?_; cbv)
  · cases hs
end Go.Proofs.YteifneielgnniaaDoor.Sh
end
section
namespace Go.Proofs.YteifneielgnniaaDoor.Sh
open Go Go.Proofs
attribute [local irreducible] wds tx rn rnC rnOk nrOk v3a v3b v3c wAt n3 webOk spL tl nl wOk
set_option maxRecDepth 100000 in
set_option maxHeartbeats 8000000 in
theorem ok21K3 : Ok Tryd.prog 21 (sLT3 fun t => t.size ≤ 243 ∧ nl t = 3 ∧ gdTo t 3 = true) := ok_of_wpaH (E := E21) mixed tts E21ok fn21 fun args H v H' o hs ho => by
  split at hs
  · rename_i t m c
    cases hs
    have hsz : (t ⟨⟩).size ≤ 1048576 := ho.one.2.1
    have hm : m ⟨⟩ = 3 := ho.one.2.2.1
    have hc : c ⟨⟩ = 9 := ho.one.2.2.2
    have h27 : IntKind.wrap .i64 (IntKind.wrap .i64 (9 * m ⟨⟩) * c ⟨⟩) = 243 := by rw [hm, hc]; decide
    have hsp : ({ data := #[10] } : ByteArray) = ({ data := #[10] } : ByteArray) ∧ (t ⟨⟩).size < 4294967281 := ⟨rfl, by omega⟩
    have hpos := wds_pos 10 (t ⟨⟩)
    have hle := wds_le 10 (t ⟨⟩)
    have hwr : (IntKind.wrap .i64 (((((wds 10 (t ⟨⟩)).length : Nat)) : Int) - 1)) = ((nl (t ⟨⟩) : Nat) : Int) := by rw [wrap64 (by omega) (by omega)]; unfold nl; omega
    have hp : 0 + (IntKind.wrap .i64 (((((wds 10 (t ⟨⟩)).length : Nat)) : Int) - 1)).toNat * 1 = nl (t ⟨⟩) := by rw [hwr, Int.toNat_natCast]; omega
    have hsl : (0 : Int) ≤ 0 ∧ 0 ≤ (IntKind.wrap .i64 (((((wds 10 (t ⟨⟩)).length : Nat)) : Int) - 1)) ∧ (IntKind.wrap .i64 (((((wds 10 (t ⟨⟩)).length : Nat)) : Int) - 1)) ≤ ((((wds 10 (t ⟨⟩)).length : Nat)) : Int) := by rw [hwr]; unfold nl; omega
    have hnl : nl (t ⟨⟩) = (wds 10 (t ⟨⟩)).length - 1 := by unfold nl; rfl
    have h243 : (t ⟨⟩).size ≤ 243 := ho.one.1.1
    have hn : nl (t ⟨⟩) = 3 := ho.one.1.2.1
    have hg : gdTo (t ⟨⟩) 3 = true := ho.one.1.2.2
    have t0 : ltB (IntKind.wrap .i64 (IntKind.wrap .i64 (9 * m ⟨⟩) * c ⟨⟩)) (((t ⟨⟩).size : Nat) : Int) = false := by rw [h27, ltB_no]; omega
    have hln : ((IntKind.wrap .i64 (((((wds 10 (t ⟨⟩)).length : Nat)) : Int) - 1)).toNat - 0) = nl (t ⟨⟩) := by rw [hwr, Int.toNat_natCast]; omega
    have b0 : ltB 0 ((((IntKind.wrap .i64 (((((wds 10 (t ⟨⟩)).length : Nat)) : Int) - 1)).toNat - 0) : Nat) : Int) = true := by rw [hln, ltB_iff]; omega
    have x0 : (0 : Int) ≤ 0 ∧ (0 : Int) < ((((IntKind.wrap .i64 (((((wds 10 (t ⟨⟩)).length : Nat)) : Int) - 1)).toNat - 0) : Nat) : Int) := by rw [hln]; exact ⟨by omega, by omega⟩
    have y0 : 0 < ((wds 10 (t ⟨⟩)).map tx).length := by rw [List.length_map]; omega
    have z0 : m ⟨⟩ = ((3 : Nat) : Int) ∧ (((wds 10 (t ⟨⟩)).map tx).getD 0 ByteArray.empty).size ≤ 1048576 ∧ 3 ≤ 3 := ⟨hm, ln_size (t ⟨⟩) 0 hsz, by decide⟩
    have g0 : nrOk 3 (((wds 10 (t ⟨⟩)).map tx).getD 0 ByteArray.empty) = true := show gd (t ⟨⟩) 0 = true from allI_at hg (by omega)
    have b1 : ltB 1 ((((IntKind.wrap .i64 (((((wds 10 (t ⟨⟩)).length : Nat)) : Int) - 1)).toNat - 0) : Nat) : Int) = true := by rw [hln, ltB_iff]; omega
    have x1 : (0 : Int) ≤ 1 ∧ (1 : Int) < ((((IntKind.wrap .i64 (((((wds 10 (t ⟨⟩)).length : Nat)) : Int) - 1)).toNat - 0) : Nat) : Int) := by rw [hln]; exact ⟨by omega, by omega⟩
    have y1 : 1 < ((wds 10 (t ⟨⟩)).map tx).length := by rw [List.length_map]; omega
    have z1 : m ⟨⟩ = ((3 : Nat) : Int) ∧ (((wds 10 (t ⟨⟩)).map tx).getD 1 ByteArray.empty).size ≤ 1048576 ∧ 3 ≤ 3 := ⟨hm, ln_size (t ⟨⟩) 1 hsz, by decide⟩
    have g1 : nrOk 3 (((wds 10 (t ⟨⟩)).map tx).getD 1 ByteArray.empty) = true := show gd (t ⟨⟩) 1 = true from allI_at hg (by omega)
    have b2 : ltB 2 ((((IntKind.wrap .i64 (((((wds 10 (t ⟨⟩)).length : Nat)) : Int) - 1)).toNat - 0) : Nat) : Int) = true := by rw [hln, ltB_iff]; omega
    have x2 : (0 : Int) ≤ 2 ∧ (2 : Int) < ((((IntKind.wrap .i64 (((((wds 10 (t ⟨⟩)).length : Nat)) : Int) - 1)).toNat - 0) : Nat) : Int) := by rw [hln]; exact ⟨by omega, by omega⟩
    have y2 : 2 < ((wds 10 (t ⟨⟩)).map tx).length := by rw [List.length_map]; omega
    have z2 : m ⟨⟩ = ((3 : Nat) : Int) ∧ (((wds 10 (t ⟨⟩)).map tx).getD 2 ByteArray.empty).size ≤ 1048576 ∧ 3 ≤ 3 := ⟨hm, ln_size (t ⟨⟩) 2 hsz, by decide⟩
    have g2 : nrOk 3 (((wds 10 (t ⟨⟩)).map tx).getD 2 ByteArray.empty) = true := show gd (t ⟨⟩) 2 = true from allI_at hg (by omega)
    have be : ltB 3 ((((IntKind.wrap .i64 (((((wds 10 (t ⟨⟩)).length : Nat)) : Int) - 1)).toNat - 0) : Nat) : Int) = false := by rw [hln, ltB_no]; omega
    have htl : ((((wds 10 (t ⟨⟩)).map tx).getD (0 + (IntKind.wrap .i64 (((((wds 10 (t ⟨⟩)).length : Nat)) : Int) - 1)).toNat * 1) ByteArray.empty).toList == ({ data := #[] } : ByteArray).toList) = tl (t ⟨⟩) := by rw [hp]; exact tl_form _
    have hx0 : 0 ≤ (IntKind.wrap .i64 (((((wds 10 (t ⟨⟩)).length : Nat)) : Int) - 1)) ∧ (IntKind.wrap .i64 (((((wds 10 (t ⟨⟩)).length : Nat)) : Int) - 1)) < ((((wds 10 (t ⟨⟩)).length : Nat)) : Int) := by rw [hwr]; omega
    have hx1 : 0 + (IntKind.wrap .i64 (((((wds 10 (t ⟨⟩)).length : Nat)) : Int) - 1)).toNat * 1 < ((wds 10 (t ⟨⟩)).map tx).length := by rw [hp, List.length_map]; omega
    refine ⟨_, HLe.refl _, ?_⟩
    cbv
    repeat' first | (refine Ob.mk ?_ ?_; (focus (first | exact hsp | exact hsl | exact x0 | exact y0 | exact z0 | exact g0 | exact x1 | exact y1 | exact z1 | exact g1 | exact x2 | exact y2 | exact z2 | exact g2 | exact htl | exact hx0 | exact hx1 | exact rfl)); cbv) | (refine Br.f t0 ?_; cbv) | (refine Br.t b0 ?_; cbv) | (refine alt_t g0 ?_; cbv) | (refine Br.t b1 ?_; cbv) | (refine alt_t g1 ?_; cbv) | (refine Br.t b2 ?_; cbv) | (refine alt_t g2 ?_; cbv) | (refine Loop.mk 70 ?_; cbv) | (refine Gen.same ?_; cbv) | (refine Br.f be ?_; cbv) | (refine Lex.mk (by kernel_rfl) ?_; cbv)
  · cases hs
end Go.Proofs.YteifneielgnniaaDoor.Sh
end
section
namespace Go.Proofs.YteifneielgnniaaDoor.Sh
open Go Go.Proofs
attribute [local irreducible] wds tx rn rnC rnOk nrOk v3a v3b v3c wAt n3 webOk spL tl nl wOk
set_option maxRecDepth 100000 in
set_option maxHeartbeats 8000000 in
theorem ok21K4 : Ok Tryd.prog 21 (sLT4 fun t => t.size ≤ 243 ∧ nl t = 4 ∧ gdTo t 4 = true) := ok_of_wpaH (E := E21) mixed tts E21ok fn21 fun args H v H' o hs ho => by
  split at hs
  · rename_i t m c
    cases hs
    have hsz : (t ⟨⟩).size ≤ 1048576 := ho.one.2.1
    have hm : m ⟨⟩ = 3 := ho.one.2.2.1
    have hc : c ⟨⟩ = 9 := ho.one.2.2.2
    have h27 : IntKind.wrap .i64 (IntKind.wrap .i64 (9 * m ⟨⟩) * c ⟨⟩) = 243 := by rw [hm, hc]; decide
    have hsp : ({ data := #[10] } : ByteArray) = ({ data := #[10] } : ByteArray) ∧ (t ⟨⟩).size < 4294967281 := ⟨rfl, by omega⟩
    have hpos := wds_pos 10 (t ⟨⟩)
    have hle := wds_le 10 (t ⟨⟩)
    have hwr : (IntKind.wrap .i64 (((((wds 10 (t ⟨⟩)).length : Nat)) : Int) - 1)) = ((nl (t ⟨⟩) : Nat) : Int) := by rw [wrap64 (by omega) (by omega)]; unfold nl; omega
    have hp : 0 + (IntKind.wrap .i64 (((((wds 10 (t ⟨⟩)).length : Nat)) : Int) - 1)).toNat * 1 = nl (t ⟨⟩) := by rw [hwr, Int.toNat_natCast]; omega
    have hsl : (0 : Int) ≤ 0 ∧ 0 ≤ (IntKind.wrap .i64 (((((wds 10 (t ⟨⟩)).length : Nat)) : Int) - 1)) ∧ (IntKind.wrap .i64 (((((wds 10 (t ⟨⟩)).length : Nat)) : Int) - 1)) ≤ ((((wds 10 (t ⟨⟩)).length : Nat)) : Int) := by rw [hwr]; unfold nl; omega
    have hnl : nl (t ⟨⟩) = (wds 10 (t ⟨⟩)).length - 1 := by unfold nl; rfl
    have h243 : (t ⟨⟩).size ≤ 243 := ho.one.1.1
    have hn : nl (t ⟨⟩) = 4 := ho.one.1.2.1
    have hg : gdTo (t ⟨⟩) 4 = true := ho.one.1.2.2
    have t0 : ltB (IntKind.wrap .i64 (IntKind.wrap .i64 (9 * m ⟨⟩) * c ⟨⟩)) (((t ⟨⟩).size : Nat) : Int) = false := by rw [h27, ltB_no]; omega
    have hln : ((IntKind.wrap .i64 (((((wds 10 (t ⟨⟩)).length : Nat)) : Int) - 1)).toNat - 0) = nl (t ⟨⟩) := by rw [hwr, Int.toNat_natCast]; omega
    have b0 : ltB 0 ((((IntKind.wrap .i64 (((((wds 10 (t ⟨⟩)).length : Nat)) : Int) - 1)).toNat - 0) : Nat) : Int) = true := by rw [hln, ltB_iff]; omega
    have x0 : (0 : Int) ≤ 0 ∧ (0 : Int) < ((((IntKind.wrap .i64 (((((wds 10 (t ⟨⟩)).length : Nat)) : Int) - 1)).toNat - 0) : Nat) : Int) := by rw [hln]; exact ⟨by omega, by omega⟩
    have y0 : 0 < ((wds 10 (t ⟨⟩)).map tx).length := by rw [List.length_map]; omega
    have z0 : m ⟨⟩ = ((3 : Nat) : Int) ∧ (((wds 10 (t ⟨⟩)).map tx).getD 0 ByteArray.empty).size ≤ 1048576 ∧ 3 ≤ 3 := ⟨hm, ln_size (t ⟨⟩) 0 hsz, by decide⟩
    have g0 : nrOk 3 (((wds 10 (t ⟨⟩)).map tx).getD 0 ByteArray.empty) = true := show gd (t ⟨⟩) 0 = true from allI_at hg (by omega)
    have b1 : ltB 1 ((((IntKind.wrap .i64 (((((wds 10 (t ⟨⟩)).length : Nat)) : Int) - 1)).toNat - 0) : Nat) : Int) = true := by rw [hln, ltB_iff]; omega
    have x1 : (0 : Int) ≤ 1 ∧ (1 : Int) < ((((IntKind.wrap .i64 (((((wds 10 (t ⟨⟩)).length : Nat)) : Int) - 1)).toNat - 0) : Nat) : Int) := by rw [hln]; exact ⟨by omega, by omega⟩
    have y1 : 1 < ((wds 10 (t ⟨⟩)).map tx).length := by rw [List.length_map]; omega
    have z1 : m ⟨⟩ = ((3 : Nat) : Int) ∧ (((wds 10 (t ⟨⟩)).map tx).getD 1 ByteArray.empty).size ≤ 1048576 ∧ 3 ≤ 3 := ⟨hm, ln_size (t ⟨⟩) 1 hsz, by decide⟩
    have g1 : nrOk 3 (((wds 10 (t ⟨⟩)).map tx).getD 1 ByteArray.empty) = true := show gd (t ⟨⟩) 1 = true from allI_at hg (by omega)
    have b2 : ltB 2 ((((IntKind.wrap .i64 (((((wds 10 (t ⟨⟩)).length : Nat)) : Int) - 1)).toNat - 0) : Nat) : Int) = true := by rw [hln, ltB_iff]; omega
    have x2 : (0 : Int) ≤ 2 ∧ (2 : Int) < ((((IntKind.wrap .i64 (((((wds 10 (t ⟨⟩)).length : Nat)) : Int) - 1)).toNat - 0) : Nat) : Int) := by rw [hln]; exact ⟨by omega, by omega⟩
    have y2 : 2 < ((wds 10 (t ⟨⟩)).map tx).length := by rw [List.length_map]; omega
    have z2 : m ⟨⟩ = ((3 : Nat) : Int) ∧ (((wds 10 (t ⟨⟩)).map tx).getD 2 ByteArray.empty).size ≤ 1048576 ∧ 3 ≤ 3 := ⟨hm, ln_size (t ⟨⟩) 2 hsz, by decide⟩
    have g2 : nrOk 3 (((wds 10 (t ⟨⟩)).map tx).getD 2 ByteArray.empty) = true := show gd (t ⟨⟩) 2 = true from allI_at hg (by omega)
    have b3 : ltB 3 ((((IntKind.wrap .i64 (((((wds 10 (t ⟨⟩)).length : Nat)) : Int) - 1)).toNat - 0) : Nat) : Int) = true := by rw [hln, ltB_iff]; omega
    have x3 : (0 : Int) ≤ 3 ∧ (3 : Int) < ((((IntKind.wrap .i64 (((((wds 10 (t ⟨⟩)).length : Nat)) : Int) - 1)).toNat - 0) : Nat) : Int) := by rw [hln]; exact ⟨by omega, by omega⟩
    have y3 : 3 < ((wds 10 (t ⟨⟩)).map tx).length := by rw [List.length_map]; omega
    have z3 : m ⟨⟩ = ((3 : Nat) : Int) ∧ (((wds 10 (t ⟨⟩)).map tx).getD 3 ByteArray.empty).size ≤ 1048576 ∧ 3 ≤ 3 := ⟨hm, ln_size (t ⟨⟩) 3 hsz, by decide⟩
    have g3 : nrOk 3 (((wds 10 (t ⟨⟩)).map tx).getD 3 ByteArray.empty) = true := show gd (t ⟨⟩) 3 = true from allI_at hg (by omega)
    have be : ltB 4 ((((IntKind.wrap .i64 (((((wds 10 (t ⟨⟩)).length : Nat)) : Int) - 1)).toNat - 0) : Nat) : Int) = false := by rw [hln, ltB_no]; omega
    have htl : ((((wds 10 (t ⟨⟩)).map tx).getD (0 + (IntKind.wrap .i64 (((((wds 10 (t ⟨⟩)).length : Nat)) : Int) - 1)).toNat * 1) ByteArray.empty).toList == ({ data := #[] } : ByteArray).toList) = tl (t ⟨⟩) := by rw [hp]; exact tl_form _
    have hx0 : 0 ≤ (IntKind.wrap .i64 (((((wds 10 (t ⟨⟩)).length : Nat)) : Int) - 1)) ∧ (IntKind.wrap .i64 (((((wds 10 (t ⟨⟩)).length : Nat)) : Int) - 1)) < ((((wds 10 (t ⟨⟩)).length : Nat)) : Int) := by rw [hwr]; omega
    have hx1 : 0 + (IntKind.wrap .i64 (((((wds 10 (t ⟨⟩)).length : Nat)) : Int) - 1)).toNat * 1 < ((wds 10 (t ⟨⟩)).map tx).length := by rw [hp, List.length_map]; omega
    refine ⟨_, HLe.refl _, ?_⟩
    cbv
    repeat' first | (refine Ob.mk ?_ ?_; (focus (first | exact hsp | exact hsl | exact x0 | exact y0 | exact z0 | exact g0 | exact x1 | exact y1 | exact z1 | exact g1 | exact x2 | exact y2 | exact z2 | exact g2 | exact x3 | exact y3 | exact z3 | exact g3 | exact htl | exact hx0 | exact hx1 | exact rfl)); cbv) | (refine Br.f t0 ?_; cbv) | (refine Br.t b0 ?_; cbv) | (refine alt_t g0 ?_; cbv) | (refine Br.t b1 ?_; cbv) | (refine alt_t g1 ?_; cbv) | (refine Br.t b2 ?_; cbv) | (refine alt_t g2 ?_; cbv) | (refine Br.t b3 ?_; cbv) | (refine alt_t g3 ?_; cbv) | (refine Loop.mk 70 ?_; cbv) | (refine Gen.same ?_; cbv) | (refine Br.f be ?_; cbv) | (refine Lex.mk (by kernel_rfl) ?_; cbv)
  · cases hs
end Go.Proofs.YteifneielgnniaaDoor.Sh
end
section
namespace Go.Proofs.YteifneielgnniaaDoor.Sh
open Go Go.Proofs
attribute [local irreducible] wds tx rn rnC rnOk nrOk v3a v3b v3c wAt n3 webOk spL tl nl wOk
set_option maxRecDepth 100000 in
set_option maxHeartbeats 8000000 in
theorem ok21K5 : Ok Tryd.prog 21 (sLT5 fun t => t.size ≤ 243 ∧ nl t = 5 ∧ gdTo t 5 = true) := ok_of_wpaH (E := E21) mixed tts E21ok fn21 fun args H v H' o hs ho => by
  split at hs
  · rename_i t m c
    cases hs
    have hsz : (t ⟨⟩).size ≤ 1048576 := ho.one.2.1
    have hm : m ⟨⟩ = 3 := ho.one.2.2.1
    have hc : c ⟨⟩ = 9 := ho.one.2.2.2
    have h27 : IntKind.wrap .i64 (IntKind.wrap .i64 (9 * m ⟨⟩) * c ⟨⟩) = 243 := by rw [hm, hc]; decide
    have hsp : ({ data := #[10] } : ByteArray) = ({ data := #[10] } : ByteArray) ∧ (t ⟨⟩).size < 4294967281 := ⟨rfl, by omega⟩
    have hpos := wds_pos 10 (t ⟨⟩)
    have hle := wds_le 10 (t ⟨⟩)
    have hwr : (IntKind.wrap .i64 (((((wds 10 (t ⟨⟩)).length : Nat)) : Int) - 1)) = ((nl (t ⟨⟩) : Nat) : Int) := by rw [wrap64 (by omega) (by omega)]; unfold nl; omega
    have hp : 0 + (IntKind.wrap .i64 (((((wds 10 (t ⟨⟩)).length : Nat)) : Int) - 1)).toNat * 1 = nl (t ⟨⟩) := by rw [hwr, Int.toNat_natCast]; omega
    have hsl : (0 : Int) ≤ 0 ∧ 0 ≤ (IntKind.wrap .i64 (((((wds 10 (t ⟨⟩)).length : Nat)) : Int) - 1)) ∧ (IntKind.wrap .i64 (((((wds 10 (t ⟨⟩)).length : Nat)) : Int) - 1)) ≤ ((((wds 10 (t ⟨⟩)).length : Nat)) : Int) := by rw [hwr]; unfold nl; omega
    have hnl : nl (t ⟨⟩) = (wds 10 (t ⟨⟩)).length - 1 := by unfold nl; rfl
    have h243 : (t ⟨⟩).size ≤ 243 := ho.one.1.1
    have hn : nl (t ⟨⟩) = 5 := ho.one.1.2.1
    have hg : gdTo (t ⟨⟩) 5 = true := ho.one.1.2.2
    have t0 : ltB (IntKind.wrap .i64 (IntKind.wrap .i64 (9 * m ⟨⟩) * c ⟨⟩)) (((t ⟨⟩).size : Nat) : Int) = false := by rw [h27, ltB_no]; omega
    have hln : ((IntKind.wrap .i64 (((((wds 10 (t ⟨⟩)).length : Nat)) : Int) - 1)).toNat - 0) = nl (t ⟨⟩) := by rw [hwr, Int.toNat_natCast]; omega
    have b0 : ltB 0 ((((IntKind.wrap .i64 (((((wds 10 (t ⟨⟩)).length : Nat)) : Int) - 1)).toNat - 0) : Nat) : Int) = true := by rw [hln, ltB_iff]; omega
    have x0 : (0 : Int) ≤ 0 ∧ (0 : Int) < ((((IntKind.wrap .i64 (((((wds 10 (t ⟨⟩)).length : Nat)) : Int) - 1)).toNat - 0) : Nat) : Int) := by rw [hln]; exact ⟨by omega, by omega⟩
    have y0 : 0 < ((wds 10 (t ⟨⟩)).map tx).length := by rw [List.length_map]; omega
    have z0 : m ⟨⟩ = ((3 : Nat) : Int) ∧ (((wds 10 (t ⟨⟩)).map tx).getD 0 ByteArray.empty).size ≤ 1048576 ∧ 3 ≤ 3 := ⟨hm, ln_size (t ⟨⟩) 0 hsz, by decide⟩
    have g0 : nrOk 3 (((wds 10 (t ⟨⟩)).map tx).getD 0 ByteArray.empty) = true := show gd (t ⟨⟩) 0 = true from allI_at hg (by omega)
    have b1 : ltB 1 ((((IntKind.wrap .i64 (((((wds 10 (t ⟨⟩)).length : Nat)) : Int) - 1)).toNat - 0) : Nat) : Int) = true := by rw [hln, ltB_iff]; omega
    have x1 : (0 : Int) ≤ 1 ∧ (1 : Int) < ((((IntKind.wrap .i64 (((((wds 10 (t ⟨⟩)).length : Nat)) : Int) - 1)).toNat - 0) : Nat) : Int) := by rw [hln]; exact ⟨by omega, by omega⟩
    have y1 : 1 < ((wds 10 (t ⟨⟩)).map tx).length := by rw [List.length_map]; omega
    have z1 : m ⟨⟩ = ((3 : Nat) : Int) ∧ (((wds 10 (t ⟨⟩)).map tx).getD 1 ByteArray.empty).size ≤ 1048576 ∧ 3 ≤ 3 := ⟨hm, ln_size (t ⟨⟩) 1 hsz, by decide⟩
    have g1 : nrOk 3 (((wds 10 (t ⟨⟩)).map tx).getD 1 ByteArray.empty) = true := show gd (t ⟨⟩) 1 = true from allI_at hg (by omega)
    have b2 : ltB 2 ((((IntKind.wrap .i64 (((((wds 10 (t ⟨⟩)).length : Nat)) : Int) - 1)).toNat - 0) : Nat) : Int) = true := by rw [hln, ltB_iff]; omega
    have x2 : (0 : Int) ≤ 2 ∧ (2 : Int) < ((((IntKind.wrap .i64 (((((wds 10 (t ⟨⟩)).length : Nat)) : Int) - 1)).toNat - 0) : Nat) : Int) := by rw [hln]; exact ⟨by omega, by omega⟩
    have y2 : 2 < ((wds 10 (t ⟨⟩)).map tx).length := by rw [List.length_map]; omega
    have z2 : m ⟨⟩ = ((3 : Nat) : Int) ∧ (((wds 10 (t ⟨⟩)).map tx).getD 2 ByteArray.empty).size ≤ 1048576 ∧ 3 ≤ 3 := ⟨hm, ln_size (t ⟨⟩) 2 hsz, by decide⟩
    have g2 : nrOk 3 (((wds 10 (t ⟨⟩)).map tx).getD 2 ByteArray.empty) = true := show gd (t ⟨⟩) 2 = true from allI_at hg (by omega)
    have b3 : ltB 3 ((((IntKind.wrap .i64 (((((wds 10 (t ⟨⟩)).length : Nat)) : Int) - 1)).toNat - 0) : Nat) : Int) = true := by rw [hln, ltB_iff]; omega
    have x3 : (0 : Int) ≤ 3 ∧ (3 : Int) < ((((IntKind.wrap .i64 (((((wds 10 (t ⟨⟩)).length : Nat)) : Int) - 1)).toNat - 0) : Nat) : Int) := by rw [hln]; exact ⟨by omega, by omega⟩
    have y3 : 3 < ((wds 10 (t ⟨⟩)).map tx).length := by rw [List.length_map]; omega
    have z3 : m ⟨⟩ = ((3 : Nat) : Int) ∧ (((wds 10 (t ⟨⟩)).map tx).getD 3 ByteArray.empty).size ≤ 1048576 ∧ 3 ≤ 3 := ⟨hm, ln_size (t ⟨⟩) 3 hsz, by decide⟩
    have g3 : nrOk 3 (((wds 10 (t ⟨⟩)).map tx).getD 3 ByteArray.empty) = true := show gd (t ⟨⟩) 3 = true from allI_at hg (by omega)
    have b4 : ltB 4 ((((IntKind.wrap .i64 (((((wds 10 (t ⟨⟩)).length : Nat)) : Int) - 1)).toNat - 0) : Nat) : Int) = true := by rw [hln, ltB_iff]; omega
    have x4 : (0 : Int) ≤ 4 ∧ (4 : Int) < ((((IntKind.wrap .i64 (((((wds 10 (t ⟨⟩)).length : Nat)) : Int) - 1)).toNat - 0) : Nat) : Int) := by rw [hln]; exact ⟨by omega, by omega⟩
    have y4 : 4 < ((wds 10 (t ⟨⟩)).map tx).length := by rw [List.length_map]; omega
    have z4 : m ⟨⟩ = ((3 : Nat) : Int) ∧ (((wds 10 (t ⟨⟩)).map tx).getD 4 ByteArray.empty).size ≤ 1048576 ∧ 3 ≤ 3 := ⟨hm, ln_size (t ⟨⟩) 4 hsz, by decide⟩
    have g4 : nrOk 3 (((wds 10 (t ⟨⟩)).map tx).getD 4 ByteArray.empty) = true := show gd (t ⟨⟩) 4 = true from allI_at hg (by omega)
    have be : ltB 5 ((((IntKind.wrap .i64 (((((wds 10 (t ⟨⟩)).length : Nat)) : Int) - 1)).toNat - 0) : Nat) : Int) = false := by rw [hln, ltB_no]; omega
    have htl : ((((wds 10 (t ⟨⟩)).map tx).getD (0 + (IntKind.wrap .i64 (((((wds 10 (t ⟨⟩)).length : Nat)) : Int) - 1)).toNat * 1) ByteArray.empty).toList == ({ data := #[] } : ByteArray).toList) = tl (t ⟨⟩) := by rw [hp]; exact tl_form _
    have hx0 : 0 ≤ (IntKind.wrap .i64 (((((wds 10 (t ⟨⟩)).length : Nat)) : Int) - 1)) ∧ (IntKind.wrap .i64 (((((wds 10 (t ⟨⟩)).length : Nat)) : Int) - 1)) < ((((wds 10 (t ⟨⟩)).length : Nat)) : Int) := by rw [hwr]; omega
    have hx1 : 0 + (IntKind.wrap .i64 (((((wds 10 (t ⟨⟩)).length : Nat)) : Int) - 1)).toNat * 1 < ((wds 10 (t ⟨⟩)).map tx).length := by rw [hp, List.length_map]; omega
    refine ⟨_, HLe.refl _, ?_⟩
    cbv
    repeat' first | (refine Ob.mk ?_ ?_; (focus (first | exact hsp | exact hsl | exact x0 | exact y0 | exact z0 | exact g0 | exact x1 | exact y1 | exact z1 | exact g1 | exact x2 | exact y2 | exact z2 | exact g2 | exact x3 | exact y3 | exact z3 | exact g3 | exact x4 | exact y4 | exact z4 | exact g4 | exact htl | exact hx0 | exact hx1 | exact rfl)); cbv) | (refine Br.f t0 ?_; cbv) | (refine Br.t b0 ?_; cbv) | (refine alt_t g0 ?_; cbv) | (refine Br.t b1 ?_; cbv) | (refine alt_t g1 ?_; cbv) | (refine Br.t b2 ?_; cbv) | (refine alt_t g2 ?_; cbv) | (refine Br.t b3 ?_; cbv) | (refine alt_t g3 ?_; cbv) | (refine Br.t b4 ?_; cbv) | (refine alt_t g4 ?_; cbv) | (refine Loop.mk 70 ?_; cbv) | (refine Gen.same ?_; cbv) | (refine Br.f be ?_; cbv) | (refine Lex.mk (by kernel_rfl) ?_; cbv)
  · cases hs
end Go.Proofs.YteifneielgnniaaDoor.Sh
end
section
namespace Go.Proofs.YteifneielgnniaaDoor.Sh
open Go Go.Proofs
attribute [local irreducible] wds tx rn rnC rnOk nrOk v3a v3b v3c wAt n3 webOk spL tl nl wOk
set_option maxRecDepth 100000 in
set_option maxHeartbeats 8000000 in
theorem ok21K6 : Ok Tryd.prog 21 (sLT6 fun t => t.size ≤ 243 ∧ nl t = 6 ∧ gdTo t 6 = true) := ok_of_wpaH (E := E21) mixed tts E21ok fn21 fun args H v H' o hs ho => by
  split at hs
  · rename_i t m c
    cases hs
    have hsz : (t ⟨⟩).size ≤ 1048576 := ho.one.2.1
    have hm : m ⟨⟩ = 3 := ho.one.2.2.1
    have hc : c ⟨⟩ = 9 := ho.one.2.2.2
    have h27 : IntKind.wrap .i64 (IntKind.wrap .i64 (9 * m ⟨⟩) * c ⟨⟩) = 243 := by rw [hm, hc]; decide
    have hsp : ({ data := #[10] } : ByteArray) = ({ data := #[10] } : ByteArray) ∧ (t ⟨⟩).size < 4294967281 := ⟨rfl, by omega⟩
    have hpos := wds_pos 10 (t ⟨⟩)
    have hle := wds_le 10 (t ⟨⟩)
    have hwr : (IntKind.wrap .i64 (((((wds 10 (t ⟨⟩)).length : Nat)) : Int) - 1)) = ((nl (t ⟨⟩) : Nat) : Int) := by rw [wrap64 (by omega) (by omega)]; unfold nl; omega
    have hp : 0 + (IntKind.wrap .i64 (((((wds 10 (t ⟨⟩)).length : Nat)) : Int) - 1)).toNat * 1 = nl (t ⟨⟩) := by rw [hwr, Int.toNat_natCast]; omega
    have hsl : (0 : Int) ≤ 0 ∧ 0 ≤ (IntKind.wrap .i64 (((((wds 10 (t ⟨⟩)).length : Nat)) : Int) - 1)) ∧ (IntKind.wrap .i64 (((((wds 10 (t ⟨⟩)).length : Nat)) : Int) - 1)) ≤ ((((wds 10 (t ⟨⟩)).length : Nat)) : Int) := by rw [hwr]; unfold nl; omega
    have hnl : nl (t ⟨⟩) = (wds 10 (t ⟨⟩)).length - 1 := by unfold nl; rfl
    have h243 : (t ⟨⟩).size ≤ 243 := ho.one.1.1
    have hn : nl (t ⟨⟩) = 6 := ho.one.1.2.1
    have hg : gdTo (t ⟨⟩) 6 = true := ho.one.1.2.2
    have t0 : ltB (IntKind.wrap .i64 (IntKind.wrap .i64 (9 * m ⟨⟩) * c ⟨⟩)) (((t ⟨⟩).size : Nat) : Int) = false := by rw [h27, ltB_no]; omega
    have hln : ((IntKind.wrap .i64 (((((wds 10 (t ⟨⟩)).length : Nat)) : Int) - 1)).toNat - 0) = nl (t ⟨⟩) := by rw [hwr, Int.toNat_natCast]; omega
    have b0 : ltB 0 ((((IntKind.wrap .i64 (((((wds 10 (t ⟨⟩)).length : Nat)) : Int) - 1)).toNat - 0) : Nat) : Int) = true := by rw [hln, ltB_iff]; omega
    have x0 : (0 : Int) ≤ 0 ∧ (0 : Int) < ((((IntKind.wrap .i64 (((((wds 10 (t ⟨⟩)).length : Nat)) : Int) - 1)).toNat - 0) : Nat) : Int) := by rw [hln]; exact ⟨by omega, by omega⟩
    have y0 : 0 < ((wds 10 (t ⟨⟩)).map tx).length := by rw [List.length_map]; omega
    have z0 : m ⟨⟩ = ((3 : Nat) : Int) ∧ (((wds 10 (t ⟨⟩)).map tx).getD 0 ByteArray.empty).size ≤ 1048576 ∧ 3 ≤ 3 := ⟨hm, ln_size (t ⟨⟩) 0 hsz, by decide⟩
    have g0 : nrOk 3 (((wds 10 (t ⟨⟩)).map tx).getD 0 ByteArray.empty) = true := show gd (t ⟨⟩) 0 = true from allI_at hg (by omega)
    have b1 : ltB 1 ((((IntKind.wrap .i64 (((((wds 10 (t ⟨⟩)).length : Nat)) : Int) - 1)).toNat - 0) : Nat) : Int) = true := by rw [hln, ltB_iff]; omega
    have x1 : (0 : Int) ≤ 1 ∧ (1 : Int) < ((((IntKind.wrap .i64 (((((wds 10 (t ⟨⟩)).length : Nat)) : Int) - 1)).toNat - 0) : Nat) : Int) := by rw [hln]; exact ⟨by omega, by omega⟩
    have y1 : 1 < ((wds 10 (t ⟨⟩)).map tx).length := by rw [List.length_map]; omega
    have z1 : m ⟨⟩ = ((3 : Nat) : Int) ∧ (((wds 10 (t ⟨⟩)).map tx).getD 1 ByteArray.empty).size ≤ 1048576 ∧ 3 ≤ 3 := ⟨hm, ln_size (t ⟨⟩) 1 hsz, by decide⟩
    have g1 : nrOk 3 (((wds 10 (t ⟨⟩)).map tx).getD 1 ByteArray.empty) = true := show gd (t ⟨⟩) 1 = true from allI_at hg (by omega)
    have b2 : ltB 2 ((((IntKind.wrap .i64 (((((wds 10 (t ⟨⟩)).length : Nat)) : Int) - 1)).toNat - 0) : Nat) : Int) = true := by rw [hln, ltB_iff]; omega
    have x2 : (0 : Int) ≤ 2 ∧ (2 : Int) < ((((IntKind.wrap .i64 (((((wds 10 (t ⟨⟩)).length : Nat)) : Int) - 1)).toNat - 0) : Nat) : Int) := by rw [hln]; exact ⟨by omega, by omega⟩
    have y2 : 2 < ((wds 10 (t ⟨⟩)).map tx).length := by rw [List.length_map]; omega
    have z2 : m ⟨⟩ = ((3 : Nat) : Int) ∧ (((wds 10 (t ⟨⟩)).map tx).getD 2 ByteArray.empty).size ≤ 1048576 ∧ 3 ≤ 3 := ⟨hm, ln_size (t ⟨⟩) 2 hsz, by decide⟩
    have g2 : nrOk 3 (((wds 10 (t ⟨⟩)).map tx).getD 2 ByteArray.empty) = true := show gd (t ⟨⟩) 2 = true from allI_at hg (by omega)
    have b3 : ltB 3 ((((IntKind.wrap .i64 (((((wds 10 (t ⟨⟩)).length : Nat)) : Int) - 1)).toNat - 0) : Nat) : Int) = true := by rw [hln, ltB_iff]; omega
    have x3 : (0 : Int) ≤ 3 ∧ (3 : Int) < ((((IntKind.wrap .i64 (((((wds 10 (t ⟨⟩)).length : Nat)) : Int) - 1)).toNat - 0) : Nat) : Int) := by rw [hln]; exact ⟨by omega, by omega⟩
    have y3 : 3 < ((wds 10 (t ⟨⟩)).map tx).length := by rw [List.length_map]; omega
    have z3 : m ⟨⟩ = ((3 : Nat) : Int) ∧ (((wds 10 (t ⟨⟩)).map tx).getD 3 ByteArray.empty).size ≤ 1048576 ∧ 3 ≤ 3 := ⟨hm, ln_size (t ⟨⟩) 3 hsz, by decide⟩
    have g3 : nrOk 3 (((wds 10 (t ⟨⟩)).map tx).getD 3 ByteArray.empty) = true := show gd (t ⟨⟩) 3 = true from allI_at hg (by omega)
    have b4 : ltB 4 ((((IntKind.wrap .i64 (((((wds 10 (t ⟨⟩)).length : Nat)) : Int) - 1)).toNat - 0) : Nat) : Int) = true := by rw [hln, ltB_iff]; omega
    have x4 : (0 : Int) ≤ 4 ∧ (4 : Int) < ((((IntKind.wrap .i64 (((((wds 10 (t ⟨⟩)).length : Nat)) : Int) - 1)).toNat - 0) : Nat) : Int) := by rw [hln]; exact ⟨by omega, by omega⟩
    have y4 : 4 < ((wds 10 (t ⟨⟩)).map tx).length := by rw [List.length_map]; omega
    have z4 : m ⟨⟩ = ((3 : Nat) : Int) ∧ (((wds 10 (t ⟨⟩)).map tx).getD 4 ByteArray.empty).size ≤ 1048576 ∧ 3 ≤ 3 := ⟨hm, ln_size (t ⟨⟩) 4 hsz, by decide⟩
    have g4 : nrOk 3 (((wds 10 (t ⟨⟩)).map tx).getD 4 ByteArray.empty) = true := show gd (t ⟨⟩) 4 = true from allI_at hg (by omega)
    have b5 : ltB 5 ((((IntKind.wrap .i64 (((((wds 10 (t ⟨⟩)).length : Nat)) : Int) - 1)).toNat - 0) : Nat) : Int) = true := by rw [hln, ltB_iff]; omega
    have x5 : (0 : Int) ≤ 5 ∧ (5 : Int) < ((((IntKind.wrap .i64 (((((wds 10 (t ⟨⟩)).length : Nat)) : Int) - 1)).toNat - 0) : Nat) : Int) := by rw [hln]; exact ⟨by omega, by omega⟩
    have y5 : 5 < ((wds 10 (t ⟨⟩)).map tx).length := by rw [List.length_map]; omega
    have z5 : m ⟨⟩ = ((3 : Nat) : Int) ∧ (((wds 10 (t ⟨⟩)).map tx).getD 5 ByteArray.empty).size ≤ 1048576 ∧ 3 ≤ 3 := ⟨hm, ln_size (t ⟨⟩) 5 hsz, by decide⟩
    have g5 : nrOk 3 (((wds 10 (t ⟨⟩)).map tx).getD 5 ByteArray.empty) = true := show gd (t ⟨⟩) 5 = true from allI_at hg (by omega)
    have be : ltB 6 ((((IntKind.wrap .i64 (((((wds 10 (t ⟨⟩)).length : Nat)) : Int) - 1)).toNat - 0) : Nat) : Int) = false := by rw [hln, ltB_no]; omega
    have htl : ((((wds 10 (t ⟨⟩)).map tx).getD (0 + (IntKind.wrap .i64 (((((wds 10 (t ⟨⟩)).length : Nat)) : Int) - 1)).toNat * 1) ByteArray.empty).toList == ({ data := #[] } : ByteArray).toList) = tl (t ⟨⟩) := by rw [hp]; exact tl_form _
    have hx0 : 0 ≤ (IntKind.wrap .i64 (((((wds 10 (t ⟨⟩)).length : Nat)) : Int) - 1)) ∧ (IntKind.wrap .i64 (((((wds 10 (t ⟨⟩)).length : Nat)) : Int) - 1)) < ((((wds 10 (t ⟨⟩)).length : Nat)) : Int) := by rw [hwr]; omega
    have hx1 : 0 + (IntKind.wrap .i64 (((((wds 10 (t ⟨⟩)).length : Nat)) : Int) - 1)).toNat * 1 < ((wds 10 (t ⟨⟩)).map tx).length := by rw [hp, List.length_map]; omega
    refine ⟨_, HLe.refl _, ?_⟩
    cbv
    repeat' first | (refine Ob.mk ?_ ?_; (focus (first | exact hsp | exact hsl | exact x0 | exact y0 | exact z0 | exact g0 | exact x1 | exact y1 | exact z1 | exact g1 | exact x2 | exact y2 | exact z2 | exact g2 | exact x3 | exact y3 | exact z3 | exact g3 | exact x4 | exact y4 | exact z4 | exact g4 | exact x5 | exact y5 | exact z5 | exact g5 | exact htl | exact hx0 | exact hx1 | exact rfl)); cbv) | (refine Br.f t0 ?_; cbv) | (refine Br.t b0 ?_; cbv) | (refine alt_t g0 ?_; cbv) | (refine Br.t b1 ?_; cbv) | (refine alt_t g1 ?_; cbv) | (refine Br.t b2 ?_; cbv) | (refine alt_t g2 ?_; cbv) | (refine Br.t b3 ?_; cbv) | (refine alt_t g3 ?_; cbv) | (refine Br.t b4 ?_; cbv) | (refine alt_t g4 ?_; cbv) | (refine Br.t b5 ?_; cbv) | (refine alt_t g5 ?_; cbv) | (refine Loop.mk 70 ?_; cbv) | (refine Gen.same ?_; cbv) | (refine Br.f be ?_; cbv) | (refine Lex.mk (by kernel_rfl) ?_; cbv)
  · cases hs
end Go.Proofs.YteifneielgnniaaDoor.Sh
end
section
namespace Go.Proofs.YteifneielgnniaaDoor.Sh
open Go Go.Proofs
attribute [local irreducible] wds tx rn rnC rnOk nrOk v3a v3b v3c wAt n3 webOk spL tl nl wOk
set_option maxRecDepth 100000 in
set_option maxHeartbeats 8000000 in
theorem ok21K7 : Ok Tryd.prog 21 (sLT7 fun t => t.size ≤ 243 ∧ nl t = 7 ∧ gdTo t 7 = true) := ok_of_wpaH (E := E21) mixed tts E21ok fn21 fun args H v H' o hs ho => by
  split at hs
  · rename_i t m c
    cases hs
    have hsz : (t ⟨⟩).size ≤ 1048576 := ho.one.2.1
    have hm : m ⟨⟩ = 3 := ho.one.2.2.1
    have hc : c ⟨⟩ = 9 := ho.one.2.2.2
    have h27 : IntKind.wrap .i64 (IntKind.wrap .i64 (9 * m ⟨⟩) * c ⟨⟩) = 243 := by rw [hm, hc]; decide
    have hsp : ({ data := #[10] } : ByteArray) = ({ data := #[10] } : ByteArray) ∧ (t ⟨⟩).size < 4294967281 := ⟨rfl, by omega⟩
    have hpos := wds_pos 10 (t ⟨⟩)
    have hle := wds_le 10 (t ⟨⟩)
    have hwr : (IntKind.wrap .i64 (((((wds 10 (t ⟨⟩)).length : Nat)) : Int) - 1)) = ((nl (t ⟨⟩) : Nat) : Int) := by rw [wrap64 (by omega) (by omega)]; unfold nl; omega
    have hp : 0 + (IntKind.wrap .i64 (((((wds 10 (t ⟨⟩)).length : Nat)) : Int) - 1)).toNat * 1 = nl (t ⟨⟩) := by rw [hwr, Int.toNat_natCast]; omega
    have hsl : (0 : Int) ≤ 0 ∧ 0 ≤ (IntKind.wrap .i64 (((((wds 10 (t ⟨⟩)).length : Nat)) : Int) - 1)) ∧ (IntKind.wrap .i64 (((((wds 10 (t ⟨⟩)).length : Nat)) : Int) - 1)) ≤ ((((wds 10 (t ⟨⟩)).length : Nat)) : Int) := by rw [hwr]; unfold nl; omega
    have hnl : nl (t ⟨⟩) = (wds 10 (t ⟨⟩)).length - 1 := by unfold nl; rfl
    have h243 : (t ⟨⟩).size ≤ 243 := ho.one.1.1
    have hn : nl (t ⟨⟩) = 7 := ho.one.1.2.1
    have hg : gdTo (t ⟨⟩) 7 = true := ho.one.1.2.2
    have t0 : ltB (IntKind.wrap .i64 (IntKind.wrap .i64 (9 * m ⟨⟩) * c ⟨⟩)) (((t ⟨⟩).size : Nat) : Int) = false := by rw [h27, ltB_no]; omega
    have hln : ((IntKind.wrap .i64 (((((wds 10 (t ⟨⟩)).length : Nat)) : Int) - 1)).toNat - 0) = nl (t ⟨⟩) := by rw [hwr, Int.toNat_natCast]; omega
    have b0 : ltB 0 ((((IntKind.wrap .i64 (((((wds 10 (t ⟨⟩)).length : Nat)) : Int) - 1)).toNat - 0) : Nat) : Int) = true := by rw [hln, ltB_iff]; omega
    have x0 : (0 : Int) ≤ 0 ∧ (0 : Int) < ((((IntKind.wrap .i64 (((((wds 10 (t ⟨⟩)).length : Nat)) : Int) - 1)).toNat - 0) : Nat) : Int) := by rw [hln]; exact ⟨by omega, by omega⟩
    have y0 : 0 < ((wds 10 (t ⟨⟩)).map tx).length := by rw [List.length_map]; omega
    have z0 : m ⟨⟩ = ((3 : Nat) : Int) ∧ (((wds 10 (t ⟨⟩)).map tx).getD 0 ByteArray.empty).size ≤ 1048576 ∧ 3 ≤ 3 := ⟨hm, ln_size (t ⟨⟩) 0 hsz, by decide⟩
    have g0 : nrOk 3 (((wds 10 (t ⟨⟩)).map tx).getD 0 ByteArray.empty) = true := show gd (t ⟨⟩) 0 = true from allI_at hg (by omega)
    have b1 : ltB 1 ((((IntKind.wrap .i64 (((((wds 10 (t ⟨⟩)).length : Nat)) : Int) - 1)).toNat - 0) : Nat) : Int) = true := by rw [hln, ltB_iff]; omega
    have x1 : (0 : Int) ≤ 1 ∧ (1 : Int) < ((((IntKind.wrap .i64 (((((wds 10 (t ⟨⟩)).length : Nat)) : Int) - 1)).toNat - 0) : Nat) : Int) := by rw [hln]; exact ⟨by omega, by omega⟩
    have y1 : 1 < ((wds 10 (t ⟨⟩)).map tx).length := by rw [List.length_map]; omega
    have z1 : m ⟨⟩ = ((3 : Nat) : Int) ∧ (((wds 10 (t ⟨⟩)).map tx).getD 1 ByteArray.empty).size ≤ 1048576 ∧ 3 ≤ 3 := ⟨hm, ln_size (t ⟨⟩) 1 hsz, by decide⟩
    have g1 : nrOk 3 (((wds 10 (t ⟨⟩)).map tx).getD 1 ByteArray.empty) = true := show gd (t ⟨⟩) 1 = true from allI_at hg (by omega)
    have b2 : ltB 2 ((((IntKind.wrap .i64 (((((wds 10 (t ⟨⟩)).length : Nat)) : Int) - 1)).toNat - 0) : Nat) : Int) = true := by rw [hln, ltB_iff]; omega
    have x2 : (0 : Int) ≤ 2 ∧ (2 : Int) < ((((IntKind.wrap .i64 (((((wds 10 (t ⟨⟩)).length : Nat)) : Int) - 1)).toNat - 0) : Nat) : Int) := by rw [hln]; exact ⟨by omega, by omega⟩
    have y2 : 2 < ((wds 10 (t ⟨⟩)).map tx).length := by rw [List.length_map]; omega
    have z2 : m ⟨⟩ = ((3 : Nat) : Int) ∧ (((wds 10 (t ⟨⟩)).map tx).getD 2 ByteArray.empty).size ≤ 1048576 ∧ 3 ≤ 3 := ⟨hm, ln_size (t ⟨⟩) 2 hsz, by decide⟩
    have g2 : nrOk 3 (((wds 10 (t ⟨⟩)).map tx).getD 2 ByteArray.empty) = true := show gd (t ⟨⟩) 2 = true from allI_at hg (by omega)
    have b3 : ltB 3 ((((IntKind.wrap .i64 (((((wds 10 (t ⟨⟩)).length : Nat)) : Int) - 1)).toNat - 0) : Nat) : Int) = true := by rw [hln, ltB_iff]; omega
    have x3 : (0 : Int) ≤ 3 ∧ (3 : Int) < ((((IntKind.wrap .i64 (((((wds 10 (t ⟨⟩)).length : Nat)) : Int) - 1)).toNat - 0) : Nat) : Int) := by rw [hln]; exact ⟨by omega, by omega⟩
    have y3 : 3 < ((wds 10 (t ⟨⟩)).map tx).length := by rw [List.length_map]; omega
    have z3 : m ⟨⟩ = ((3 : Nat) : Int) ∧ (((wds 10 (t ⟨⟩)).map tx).getD 3 ByteArray.empty).size ≤ 1048576 ∧ 3 ≤ 3 := ⟨hm, ln_size (t ⟨⟩) 3 hsz, by decide⟩
    have g3 : nrOk 3 (((wds 10 (t ⟨⟩)).map tx).getD 3 ByteArray.empty) = true := show gd (t ⟨⟩) 3 = true from allI_at hg (by omega)
    have b4 : ltB 4 ((((IntKind.wrap .i64 (((((wds 10 (t ⟨⟩)).length : Nat)) : Int) - 1)).toNat - 0) : Nat) : Int) = true := by rw [hln, ltB_iff]; omega
    have x4 : (0 : Int) ≤ 4 ∧ (4 : Int) < ((((IntKind.wrap .i64 (((((wds 10 (t ⟨⟩)).length : Nat)) : Int) - 1)).toNat - 0) : Nat) : Int) := by rw [hln]; exact ⟨by omega, by omega⟩
    have y4 : 4 < ((wds 10 (t ⟨⟩)).map tx).length := by rw [List.length_map]; omega
    have z4 : m ⟨⟩ = ((3 : Nat) : Int) ∧ (((wds 10 (t ⟨⟩)).map tx).getD 4 ByteArray.empty).size ≤ 1048576 ∧ 3 ≤ 3 := ⟨hm, ln_size (t ⟨⟩) 4 hsz, by decide⟩
    have g4 : nrOk 3 (((wds 10 (t ⟨⟩)).map tx).getD 4 ByteArray.empty) = true := show gd (t ⟨⟩) 4 = true from allI_at hg (by omega)
    have b5 : ltB 5 ((((IntKind.wrap .i64 (((((wds 10 (t ⟨⟩)).length : Nat)) : Int) - 1)).toNat - 0) : Nat) : Int) = true := by rw [hln, ltB_iff]; omega
    have x5 : (0 : Int) ≤ 5 ∧ (5 : Int) < ((((IntKind.wrap .i64 (((((wds 10 (t ⟨⟩)).length : Nat)) : Int) - 1)).toNat - 0) : Nat) : Int) := by rw [hln]; exact ⟨by omega, by omega⟩
    have y5 : 5 < ((wds 10 (t ⟨⟩)).map tx).length := by rw [List.length_map]; omega
    have z5 : m ⟨⟩ = ((3 : Nat) : Int) ∧ (((wds 10 (t ⟨⟩)).map tx).getD 5 ByteArray.empty).size ≤ 1048576 ∧ 3 ≤ 3 := ⟨hm, ln_size (t ⟨⟩) 5 hsz, by decide⟩
    have g5 : nrOk 3 (((wds 10 (t ⟨⟩)).map tx).getD 5 ByteArray.empty) = true := show gd (t ⟨⟩) 5 = true from allI_at hg (by omega)
    have b6 : ltB 6 ((((IntKind.wrap .i64 (((((wds 10 (t ⟨⟩)).length : Nat)) : Int) - 1)).toNat - 0) : Nat) : Int) = true := by rw [hln, ltB_iff]; omega
    have x6 : (0 : Int) ≤ 6 ∧ (6 : Int) < ((((IntKind.wrap .i64 (((((wds 10 (t ⟨⟩)).length : Nat)) : Int) - 1)).toNat - 0) : Nat) : Int) := by rw [hln]; exact ⟨by omega, by omega⟩
    have y6 : 6 < ((wds 10 (t ⟨⟩)).map tx).length := by rw [List.length_map]; omega
    have z6 : m ⟨⟩ = ((3 : Nat) : Int) ∧ (((wds 10 (t ⟨⟩)).map tx).getD 6 ByteArray.empty).size ≤ 1048576 ∧ 3 ≤ 3 := ⟨hm, ln_size (t ⟨⟩) 6 hsz, by decide⟩
    have g6 : nrOk 3 (((wds 10 (t ⟨⟩)).map tx).getD 6 ByteArray.empty) = true := show gd (t ⟨⟩) 6 = true from allI_at hg (by omega)
    have be : ltB 7 ((((IntKind.wrap .i64 (((((wds 10 (t ⟨⟩)).length : Nat)) : Int) - 1)).toNat - 0) : Nat) : Int) = false := by rw [hln, ltB_no]; omega
    have htl : ((((wds 10 (t ⟨⟩)).map tx).getD (0 + (IntKind.wrap .i64 (((((wds 10 (t ⟨⟩)).length : Nat)) : Int) - 1)).toNat * 1) ByteArray.empty).toList == ({ data := #[] } : ByteArray).toList) = tl (t ⟨⟩) := by rw [hp]; exact tl_form _
    have hx0 : 0 ≤ (IntKind.wrap .i64 (((((wds 10 (t ⟨⟩)).length : Nat)) : Int) - 1)) ∧ (IntKind.wrap .i64 (((((wds 10 (t ⟨⟩)).length : Nat)) : Int) - 1)) < ((((wds 10 (t ⟨⟩)).length : Nat)) : Int) := by rw [hwr]; omega
    have hx1 : 0 + (IntKind.wrap .i64 (((((wds 10 (t ⟨⟩)).length : Nat)) : Int) - 1)).toNat * 1 < ((wds 10 (t ⟨⟩)).map tx).length := by rw [hp, List.length_map]; omega
    refine ⟨_, HLe.refl _, ?_⟩
    cbv
    repeat' first | (refine Ob.mk ?_ ?_; (focus (first | exact hsp | exact hsl | exact x0 | exact y0 | exact z0 | exact g0 | exact x1 | exact y1 | exact z1 | exact g1 | exact x2 | exact y2 | exact z2 | exact g2 | exact x3 | exact y3 | exact z3 | exact g3 | exact x4 | exact y4 | exact z4 | exact g4 | exact x5 | exact y5 | exact z5 | exact g5 | exact x6 | exact y6 | exact z6 | exact g6 | exact htl | exact hx0 | exact hx1 | exact rfl)); cbv) | (refine Br.f t0 ?_; cbv) | (refine Br.t b0 ?_; cbv) | (refine alt_t g0 ?_; cbv) | (refine Br.t b1 ?_; cbv) | (refine alt_t g1 ?_; cbv) | (refine Br.t b2 ?_; cbv) | (refine alt_t g2 ?_; cbv) | (refine Br.t b3 ?_; cbv) | (refine alt_t g3 ?_; cbv) | (refine Br.t b4 ?_; cbv) | (refine alt_t g4 ?_; cbv) | (refine Br.t b5 ?_; cbv) | (refine alt_t g5 ?_; cbv) | (refine Br.t b6 ?_; cbv) | (refine alt_t g6 ?_; cbv) | (refine Loop.mk 70 ?_; cbv) | (refine Gen.same ?_; cbv) | (refine Br.f be ?_; cbv) | (refine Lex.mk (by kernel_rfl) ?_; cbv)
  · cases hs
end Go.Proofs.YteifneielgnniaaDoor.Sh
end
section
namespace Go.Proofs.YteifneielgnniaaDoor.Sh
open Go Go.Proofs
attribute [local irreducible] wds tx rn rnC rnOk nrOk v3a v3b v3c wAt n3 webOk spL tl nl wOk
set_option maxRecDepth 100000 in
set_option maxHeartbeats 8000000 in
theorem ok21K8 : Ok Tryd.prog 21 (sLT8 fun t => t.size ≤ 243 ∧ nl t = 8 ∧ gdTo t 8 = true) := ok_of_wpaH (E := E21) mixed tts E21ok fn21 fun args H v H' o hs ho => by
  split at hs
  · rename_i t m c
    cases hs
    have hsz : (t ⟨⟩).size ≤ 1048576 := ho.one.2.1
    have hm : m ⟨⟩ = 3 := ho.one.2.2.1
    have hc : c ⟨⟩ = 9 := ho.one.2.2.2
    have h27 : IntKind.wrap .i64 (IntKind.wrap .i64 (9 * m ⟨⟩) * c ⟨⟩) = 243 := by rw [hm, hc]; decide
    have hsp : ({ data := #[10] } : ByteArray) = ({ data := #[10] } : ByteArray) ∧ (t ⟨⟩).size < 4294967281 := ⟨rfl, by omega⟩
    have hpos := wds_pos 10 (t ⟨⟩)
    have hle := wds_le 10 (t ⟨⟩)
    have hwr : (IntKind.wrap .i64 (((((wds 10 (t ⟨⟩)).length : Nat)) : Int) - 1)) = ((nl (t ⟨⟩) : Nat) : Int) := by rw [wrap64 (by omega) (by omega)]; unfold nl; omega
    have hp : 0 + (IntKind.wrap .i64 (((((wds 10 (t ⟨⟩)).length : Nat)) : Int) - 1)).toNat * 1 = nl (t ⟨⟩) := by rw [hwr, Int.toNat_natCast]; omega
    have hsl : (0 : Int) ≤ 0 ∧ 0 ≤ (IntKind.wrap .i64 (((((wds 10 (t ⟨⟩)).length : Nat)) : Int) - 1)) ∧ (IntKind.wrap .i64 (((((wds 10 (t ⟨⟩)).length : Nat)) : Int) - 1)) ≤ ((((wds 10 (t ⟨⟩)).length : Nat)) : Int) := by rw [hwr]; unfold nl; omega
    have hnl : nl (t ⟨⟩) = (wds 10 (t ⟨⟩)).length - 1 := by unfold nl; rfl
    have h243 : (t ⟨⟩).size ≤ 243 := ho.one.1.1
    have hn : nl (t ⟨⟩) = 8 := ho.one.1.2.1
    have hg : gdTo (t ⟨⟩) 8 = true := ho.one.1.2.2
    have t0 : ltB (IntKind.wrap .i64 (IntKind.wrap .i64 (9 * m ⟨⟩) * c ⟨⟩)) (((t ⟨⟩).size : Nat) : Int) = false := by rw [h27, ltB_no]; omega
    have hln : ((IntKind.wrap .i64 (((((wds 10 (t ⟨⟩)).length : Nat)) : Int) - 1)).toNat - 0) = nl (t ⟨⟩) := by rw [hwr, Int.toNat_natCast]; omega
    have b0 : ltB 0 ((((IntKind.wrap .i64 (((((wds 10 (t ⟨⟩)).length : Nat)) : Int) - 1)).toNat - 0) : Nat) : Int) = true := by rw [hln, ltB_iff]; omega
    have x0 : (0 : Int) ≤ 0 ∧ (0 : Int) < ((((IntKind.wrap .i64 (((((wds 10 (t ⟨⟩)).length : Nat)) : Int) - 1)).toNat - 0) : Nat) : Int) := by rw [hln]; exact ⟨by omega, by omega⟩
    have y0 : 0 < ((wds 10 (t ⟨⟩)).map tx).length := by rw [List.length_map]; omega
    have z0 : m ⟨⟩ = ((3 : Nat) : Int) ∧ (((wds 10 (t ⟨⟩)).map tx).getD 0 ByteArray.empty).size ≤ 1048576 ∧ 3 ≤ 3 := ⟨hm, ln_size (t ⟨⟩) 0 hsz, by decide⟩
    have g0 : nrOk 3 (((wds 10 (t ⟨⟩)).map tx).getD 0 ByteArray.empty) = true := show gd (t ⟨⟩) 0 = true from allI_at hg (by omega)
    have b1 : ltB 1 ((((IntKind.wrap .i64 (((((wds 10 (t ⟨⟩)).length : Nat)) : Int) - 1)).toNat - 0) : Nat) : Int) = true := by rw [hln, ltB_iff]; omega
    have x1 : (0 : Int) ≤ 1 ∧ (1 : Int) < ((((IntKind.wrap .i64 (((((wds 10 (t ⟨⟩)).length : Nat)) : Int) - 1)).toNat - 0) : Nat) : Int) := by rw [hln]; exact ⟨by omega, by omega⟩
    have y1 : 1 < ((wds 10 (t ⟨⟩)).map tx).length := by rw [List.length_map]; omega
    have z1 : m ⟨⟩ = ((3 : Nat) : Int) ∧ (((wds 10 (t ⟨⟩)).map tx).getD 1 ByteArray.empty).size ≤ 1048576 ∧ 3 ≤ 3 := ⟨hm, ln_size (t ⟨⟩) 1 hsz, by decide⟩
    have g1 : nrOk 3 (((wds 10 (t ⟨⟩)).map tx).getD 1 ByteArray.empty) = true := show gd (t ⟨⟩) 1 = true from allI_at hg (by omega)
    have b2 : ltB 2 ((((IntKind.wrap .i64 (((((wds 10 (t ⟨⟩)).length : Nat)) : Int) - 1)).toNat - 0) : Nat) : Int) = true := by rw [hln, ltB_iff]; omega
    have x2 : (0 : Int) ≤ 2 ∧ (2 : Int) < ((((IntKind.wrap .i64 (((((wds 10 (t ⟨⟩)).length : Nat)) : Int) - 1)).toNat - 0) : Nat) : Int) := by rw [hln]; exact ⟨by omega, by omega⟩
    have y2 : 2 < ((wds 10 (t ⟨⟩)).map tx).length := by rw [List.length_map]; omega
    have z2 : m ⟨⟩ = ((3 : Nat) : Int) ∧ (((wds 10 (t ⟨⟩)).map tx).getD 2 ByteArray.empty).size ≤ 1048576 ∧ 3 ≤ 3 := ⟨hm, ln_size (t ⟨⟩) 2 hsz, by decide⟩
    have g2 : nrOk 3 (((wds 10 (t ⟨⟩)).map tx).getD 2 ByteArray.empty) = true := show gd (t ⟨⟩) 2 = true from allI_at hg (by omega)
    have b3 : ltB 3 ((((IntKind.wrap .i64 (((((wds 10 (t ⟨⟩)).length : Nat)) : Int) - 1)).toNat - 0) : Nat) : Int) = true := by rw [hln, ltB_iff]; omega
    have x3 : (0 : Int) ≤ 3 ∧ (3 : Int) < ((((IntKind.wrap .i64 (((((wds 10 (t ⟨⟩)).length : Nat)) : Int) - 1)).toNat - 0) : Nat) : Int) := by rw [hln]; exact ⟨by omega, by omega⟩
    have y3 : 3 < ((wds 10 (t ⟨⟩)).map tx).length := by rw [List.length_map]; omega
    have z3 : m ⟨⟩ = ((3 : Nat) : Int) ∧ (((wds 10 (t ⟨⟩)).map tx).getD 3 ByteArray.empty).size ≤ 1048576 ∧ 3 ≤ 3 := ⟨hm, ln_size (t ⟨⟩) 3 hsz, by decide⟩
    have g3 : nrOk 3 (((wds 10 (t ⟨⟩)).map tx).getD 3 ByteArray.empty) = true := show gd (t ⟨⟩) 3 = true from allI_at hg (by omega)
    have b4 : ltB 4 ((((IntKind.wrap .i64 (((((wds 10 (t ⟨⟩)).length : Nat)) : Int) - 1)).toNat - 0) : Nat) : Int) = true := by rw [hln, ltB_iff]; omega
    have x4 : (0 : Int) ≤ 4 ∧ (4 : Int) < ((((IntKind.wrap .i64 (((((wds 10 (t ⟨⟩)).length : Nat)) : Int) - 1)).toNat - 0) : Nat) : Int) := by rw [hln]; exact ⟨by omega, by omega⟩
    have y4 : 4 < ((wds 10 (t ⟨⟩)).map tx).length := by rw [List.length_map]; omega
    have z4 : m ⟨⟩ = ((3 : Nat) : Int) ∧ (((wds 10 (t ⟨⟩)).map tx).getD 4 ByteArray.empty).size ≤ 1048576 ∧ 3 ≤ 3 := ⟨hm, ln_size (t ⟨⟩) 4 hsz, by decide⟩
    have g4 : nrOk 3 (((wds 10 (t ⟨⟩)).map tx).getD 4 ByteArray.empty) = true := show gd (t ⟨⟩) 4 = true from allI_at hg (by omega)
    have b5 : ltB 5 ((((IntKind.wrap .i64 (((((wds 10 (t ⟨⟩)).length : Nat)) : Int) - 1)).toNat - 0) : Nat) : Int) = true := by rw [hln, ltB_iff]; omega
    have x5 : (0 : Int) ≤ 5 ∧ (5 : Int) < ((((IntKind.wrap .i64 (((((wds 10 (t ⟨⟩)).length : Nat)) : Int) - 1)).toNat - 0) : Nat) : Int) := by rw [hln]; exact ⟨by omega, by omega⟩
    have y5 : 5 < ((wds 10 (t ⟨⟩)).map tx).length := by rw [List.length_map]; omega
    have z5 : m ⟨⟩ = ((3 : Nat) : Int) ∧ (((wds 10 (t ⟨⟩)).map tx).getD 5 ByteArray.empty).size ≤ 1048576 ∧ 3 ≤ 3 := ⟨hm, ln_size (t ⟨⟩) 5 hsz, by decide⟩
    have g5 : nrOk 3 (((wds 10 (t ⟨⟩)).map tx).getD 5 ByteArray.empty) = true := show gd (t ⟨⟩) 5 = true from allI_at hg (by omega)
    have b6 : ltB 6 ((((IntKind.wrap .i64 (((((wds 10 (t ⟨⟩)).length : Nat)) : Int) - 1)).toNat - 0) : Nat) : Int) = true := by rw [hln, ltB_iff]; omega
    have x6 : (0 : Int) ≤ 6 ∧ (6 : Int) < ((((IntKind.wrap .i64 (((((wds 10 (t ⟨⟩)).length : Nat)) : Int) - 1)).toNat - 0) : Nat) : Int) := by rw [hln]; exact ⟨by omega, by omega⟩
    have y6 : 6 < ((wds 10 (t ⟨⟩)).map tx).length := by rw [List.length_map]; omega
    have z6 : m ⟨⟩ = ((3 : Nat) : Int) ∧ (((wds 10 (t ⟨⟩)).map tx).getD 6 ByteArray.empty).size ≤ 1048576 ∧ 3 ≤ 3 := ⟨hm, ln_size (t ⟨⟩) 6 hsz, by decide⟩
    have g6 : nrOk 3 (((wds 10 (t ⟨⟩)).map tx).getD 6 ByteArray.empty) = true := show gd (t ⟨⟩) 6 = true from allI_at hg (by omega)
    have b7 : ltB 7 ((((IntKind.wrap .i64 (((((wds 10 (t ⟨⟩)).length : Nat)) : Int) - 1)).toNat - 0) : Nat) : Int) = true := by rw [hln, ltB_iff]; omega
    have x7 : (0 : Int) ≤ 7 ∧ (7 : Int) < ((((IntKind.wrap .i64 (((((wds 10 (t ⟨⟩)).length : Nat)) : Int) - 1)).toNat - 0) : Nat) : Int) := by rw [hln]; exact ⟨by omega, by omega⟩
    have y7 : 7 < ((wds 10 (t ⟨⟩)).map tx).length := by rw [List.length_map]; omega
    have z7 : m ⟨⟩ = ((3 : Nat) : Int) ∧ (((wds 10 (t ⟨⟩)).map tx).getD 7 ByteArray.empty).size ≤ 1048576 ∧ 3 ≤ 3 := ⟨hm, ln_size (t ⟨⟩) 7 hsz, by decide⟩
    have g7 : nrOk 3 (((wds 10 (t ⟨⟩)).map tx).getD 7 ByteArray.empty) = true := show gd (t ⟨⟩) 7 = true from allI_at hg (by omega)
    have be : ltB 8 ((((IntKind.wrap .i64 (((((wds 10 (t ⟨⟩)).length : Nat)) : Int) - 1)).toNat - 0) : Nat) : Int) = false := by rw [hln, ltB_no]; omega
    have htl : ((((wds 10 (t ⟨⟩)).map tx).getD (0 + (IntKind.wrap .i64 (((((wds 10 (t ⟨⟩)).length : Nat)) : Int) - 1)).toNat * 1) ByteArray.empty).toList == ({ data := #[] } : ByteArray).toList) = tl (t ⟨⟩) := by rw [hp]; exact tl_form _
    have hx0 : 0 ≤ (IntKind.wrap .i64 (((((wds 10 (t ⟨⟩)).length : Nat)) : Int) - 1)) ∧ (IntKind.wrap .i64 (((((wds 10 (t ⟨⟩)).length : Nat)) : Int) - 1)) < ((((wds 10 (t ⟨⟩)).length : Nat)) : Int) := by rw [hwr]; omega
    have hx1 : 0 + (IntKind.wrap .i64 (((((wds 10 (t ⟨⟩)).length : Nat)) : Int) - 1)).toNat * 1 < ((wds 10 (t ⟨⟩)).map tx).length := by rw [hp, List.length_map]; omega
    refine ⟨_, HLe.refl _, ?_⟩
    cbv
    repeat' first | (refine Ob.mk ?_ ?_; (focus (first | exact hsp | exact hsl | exact x0 | exact y0 | exact z0 | exact g0 | exact x1 | exact y1 | exact z1 | exact g1 | exact x2 | exact y2 | exact z2 | exact g2 | exact x3 | exact y3 | exact z3 | exact g3 | exact x4 | exact y4 | exact z4 | exact g4 | exact x5 | exact y5 | exact z5 | exact g5 | exact x6 | exact y6 | exact z6 | exact g6 | exact x7 | exact y7 | exact z7 | exact g7 | exact htl | exact hx0 | exact hx1 | exact rfl)); cbv) | (refine Br.f t0 ?_; cbv) | (refine Br.t b0 ?_; cbv) | (refine alt_t g0 ?_; cbv) | (refine Br.t b1 ?_; cbv) | (refine alt_t g1 ?_; cbv) | (refine Br.t b2 ?_; cbv) | (refine alt_t g2 ?_; cbv) | (refine Br.t b3 ?_; cbv) | (refine alt_t g3 ?_; cbv) | (refine Br.t b4 ?_; cbv) | (refine alt_t g4 ?_; cbv) | (refine Br.t b5 ?_; cbv) | (refine alt_t g5 ?_; cbv) | (refine Br.t b6 ?_; cbv) | (refine alt_t g6 ?_; cbv) | (refine Br.t b7 ?_; cbv) | (refine alt_t g7 ?_; cbv) | (refine Loop.mk 70 ?_; cbv) | (refine Gen.same ?_; cbv) | (refine Br.f be ?_; cbv) | (refine Lex.mk (by kernel_rfl) ?_; cbv)
  · cases hs
end Go.Proofs.YteifneielgnniaaDoor.Sh
end
section
namespace Go.Proofs.YteifneielgnniaaDoor.Sh
open Go Go.Proofs
attribute [local irreducible] wds tx rn rnC rnOk nrOk v3a v3b v3c wAt n3 webOk spL tl nl wOk
set_option maxRecDepth 100000 in
set_option maxHeartbeats 8000000 in
theorem ok21K9 : Ok Tryd.prog 21 (sLT9 fun t => t.size ≤ 243 ∧ nl t = 9 ∧ gdTo t 9 = true) := ok_of_wpaH (E := E21) mixed tts E21ok fn21 fun args H v H' o hs ho => by
  split at hs
  · rename_i t m c
    cases hs
    have hsz : (t ⟨⟩).size ≤ 1048576 := ho.one.2.1
    have hm : m ⟨⟩ = 3 := ho.one.2.2.1
    have hc : c ⟨⟩ = 9 := ho.one.2.2.2
    have h27 : IntKind.wrap .i64 (IntKind.wrap .i64 (9 * m ⟨⟩) * c ⟨⟩) = 243 := by rw [hm, hc]; decide
    have hsp : ({ data := #[10] } : ByteArray) = ({ data := #[10] } : ByteArray) ∧ (t ⟨⟩).size < 4294967281 := ⟨rfl, by omega⟩
    have hpos := wds_pos 10 (t ⟨⟩)
    have hle := wds_le 10 (t ⟨⟩)
    have hwr : (IntKind.wrap .i64 (((((wds 10 (t ⟨⟩)).length : Nat)) : Int) - 1)) = ((nl (t ⟨⟩) : Nat) : Int) := by rw [wrap64 (by omega) (by omega)]; unfold nl; omega
    have hp : 0 + (IntKind.wrap .i64 (((((wds 10 (t ⟨⟩)).length : Nat)) : Int) - 1)).toNat * 1 = nl (t ⟨⟩) := by rw [hwr, Int.toNat_natCast]; omega
    have hsl : (0 : Int) ≤ 0 ∧ 0 ≤ (IntKind.wrap .i64 (((((wds 10 (t ⟨⟩)).length : Nat)) : Int) - 1)) ∧ (IntKind.wrap .i64 (((((wds 10 (t ⟨⟩)).length : Nat)) : Int) - 1)) ≤ ((((wds 10 (t ⟨⟩)).length : Nat)) : Int) := by rw [hwr]; unfold nl; omega
    have hnl : nl (t ⟨⟩) = (wds 10 (t ⟨⟩)).length - 1 := by unfold nl; rfl
    have h243 : (t ⟨⟩).size ≤ 243 := ho.one.1.1
    have hn : nl (t ⟨⟩) = 9 := ho.one.1.2.1
    have hg : gdTo (t ⟨⟩) 9 = true := ho.one.1.2.2
    have t0 : ltB (IntKind.wrap .i64 (IntKind.wrap .i64 (9 * m ⟨⟩) * c ⟨⟩)) (((t ⟨⟩).size : Nat) : Int) = false := by rw [h27, ltB_no]; omega
    have hln : ((IntKind.wrap .i64 (((((wds 10 (t ⟨⟩)).length : Nat)) : Int) - 1)).toNat - 0) = nl (t ⟨⟩) := by rw [hwr, Int.toNat_natCast]; omega
    have b0 : ltB 0 ((((IntKind.wrap .i64 (((((wds 10 (t ⟨⟩)).length : Nat)) : Int) - 1)).toNat - 0) : Nat) : Int) = true := by rw [hln, ltB_iff]; omega
    have x0 : (0 : Int) ≤ 0 ∧ (0 : Int) < ((((IntKind.wrap .i64 (((((wds 10 (t ⟨⟩)).length : Nat)) : Int) - 1)).toNat - 0) : Nat) : Int) := by rw [hln]; exact ⟨by omega, by omega⟩
    have y0 : 0 < ((wds 10 (t ⟨⟩)).map tx).length := by rw [List.length_map]; omega
    have z0 : m ⟨⟩ = ((3 : Nat) : Int) ∧ (((wds 10 (t ⟨⟩)).map tx).getD 0 ByteArray.empty).size ≤ 1048576 ∧ 3 ≤ 3 := ⟨hm, ln_size (t ⟨⟩) 0 hsz, by decide⟩
    have g0 : nrOk 3 (((wds 10 (t ⟨⟩)).map tx).getD 0 ByteArray.empty) = true := show gd (t ⟨⟩) 0 = true from allI_at hg (by omega)
    have b1 : ltB 1 ((((IntKind.wrap .i64 (((((wds 10 (t ⟨⟩)).length : Nat)) : Int) - 1)).toNat - 0) : Nat) : Int) = true := by rw [hln, ltB_iff]; omega
    have x1 : (0 : Int) ≤ 1 ∧ (1 : Int) < ((((IntKind.wrap .i64 (((((wds 10 (t ⟨⟩)).length : Nat)) : Int) - 1)).toNat - 0) : Nat) : Int) := by rw [hln]; exact ⟨by omega, by omega⟩
    have y1 : 1 < ((wds 10 (t ⟨⟩)).map tx).length := by rw [List.length_map]; omega
    have z1 : m ⟨⟩ = ((3 : Nat) : Int) ∧ (((wds 10 (t ⟨⟩)).map tx).getD 1 ByteArray.empty).size ≤ 1048576 ∧ 3 ≤ 3 := ⟨hm, ln_size (t ⟨⟩) 1 hsz, by decide⟩
    have g1 : nrOk 3 (((wds 10 (t ⟨⟩)).map tx).getD 1 ByteArray.empty) = true := show gd (t ⟨⟩) 1 = true from allI_at hg (by omega)
    have b2 : ltB 2 ((((IntKind.wrap .i64 (((((wds 10 (t ⟨⟩)).length : Nat)) : Int) - 1)).toNat - 0) : Nat) : Int) = true := by rw [hln, ltB_iff]; omega
    have x2 : (0 : Int) ≤ 2 ∧ (2 : Int) < ((((IntKind.wrap .i64 (((((wds 10 (t ⟨⟩)).length : Nat)) : Int) - 1)).toNat - 0) : Nat) : Int) := by rw [hln]; exact ⟨by omega, by omega⟩
    have y2 : 2 < ((wds 10 (t ⟨⟩)).map tx).length := by rw [List.length_map]; omega
    have z2 : m ⟨⟩ = ((3 : Nat) : Int) ∧ (((wds 10 (t ⟨⟩)).map tx).getD 2 ByteArray.empty).size ≤ 1048576 ∧ 3 ≤ 3 := ⟨hm, ln_size (t ⟨⟩) 2 hsz, by decide⟩
    have g2 : nrOk 3 (((wds 10 (t ⟨⟩)).map tx).getD 2 ByteArray.empty) = true := show gd (t ⟨⟩) 2 = true from allI_at hg (by omega)
    have b3 : ltB 3 ((((IntKind.wrap .i64 (((((wds 10 (t ⟨⟩)).length : Nat)) : Int) - 1)).toNat - 0) : Nat) : Int) = true := by rw [hln, ltB_iff]; omega
    have x3 : (0 : Int) ≤ 3 ∧ (3 : Int) < ((((IntKind.wrap .i64 (((((wds 10 (t ⟨⟩)).length : Nat)) : Int) - 1)).toNat - 0) : Nat) : Int) := by rw [hln]; exact ⟨by omega, by omega⟩
    have y3 : 3 < ((wds 10 (t ⟨⟩)).map tx).length := by rw [List.length_map]; omega
    have z3 : m ⟨⟩ = ((3 : Nat) : Int) ∧ (((wds 10 (t ⟨⟩)).map tx).getD 3 ByteArray.empty).size ≤ 1048576 ∧ 3 ≤ 3 := ⟨hm, ln_size (t ⟨⟩) 3 hsz, by decide⟩
    have g3 : nrOk 3 (((wds 10 (t ⟨⟩)).map tx).getD 3 ByteArray.empty) = true := show gd (t ⟨⟩) 3 = true from allI_at hg (by omega)
    have b4 : ltB 4 ((((IntKind.wrap .i64 (((((wds 10 (t ⟨⟩)).length : Nat)) : Int) - 1)).toNat - 0) : Nat) : Int) = true := by rw [hln, ltB_iff]; omega
    have x4 : (0 : Int) ≤ 4 ∧ (4 : Int) < ((((IntKind.wrap .i64 (((((wds 10 (t ⟨⟩)).length : Nat)) : Int) - 1)).toNat - 0) : Nat) : Int) := by rw [hln]; exact ⟨by omega, by omega⟩
    have y4 : 4 < ((wds 10 (t ⟨⟩)).map tx).length := by rw [List.length_map]; omega
    have z4 : m ⟨⟩ = ((3 : Nat) : Int) ∧ (((wds 10 (t ⟨⟩)).map tx).getD 4 ByteArray.empty).size ≤ 1048576 ∧ 3 ≤ 3 := ⟨hm, ln_size (t ⟨⟩) 4 hsz, by decide⟩
    have g4 : nrOk 3 (((wds 10 (t ⟨⟩)).map tx).getD 4 ByteArray.empty) = true := show gd (t ⟨⟩) 4 = true from allI_at hg (by omega)
    have b5 : ltB 5 ((((IntKind.wrap .i64 (((((wds 10 (t ⟨⟩)).length : Nat)) : Int) - 1)).toNat - 0) : Nat) : Int) = true := by rw [hln, ltB_iff]; omega
    have x5 : (0 : Int) ≤ 5 ∧ (5 : Int) < ((((IntKind.wrap .i64 (((((wds 10 (t ⟨⟩)).length : Nat)) : Int) - 1)).toNat - 0) : Nat) : Int) := by rw [hln]; exact ⟨by omega, by omega⟩
    have y5 : 5 < ((wds 10 (t ⟨⟩)).map tx).length := by rw [List.length_map]; omega
    have z5 : m ⟨⟩ = ((3 : Nat) : Int) ∧ (((wds 10 (t ⟨⟩)).map tx).getD 5 ByteArray.empty).size ≤ 1048576 ∧ 3 ≤ 3 := ⟨hm, ln_size (t ⟨⟩) 5 hsz, by decide⟩
    have g5 : nrOk 3 (((wds 10 (t ⟨⟩)).map tx).getD 5 ByteArray.empty) = true := show gd (t ⟨⟩) 5 = true from allI_at hg (by omega)
    have b6 : ltB 6 ((((IntKind.wrap .i64 (((((wds 10 (t ⟨⟩)).length : Nat)) : Int) - 1)).toNat - 0) : Nat) : Int) = true := by rw [hln, ltB_iff]; omega
    have x6 : (0 : Int) ≤ 6 ∧ (6 : Int) < ((((IntKind.wrap .i64 (((((wds 10 (t ⟨⟩)).length : Nat)) : Int) - 1)).toNat - 0) : Nat) : Int) := by rw [hln]; exact ⟨by omega, by omega⟩
    have y6 : 6 < ((wds 10 (t ⟨⟩)).map tx).length := by rw [List.length_map]; omega
    have z6 : m ⟨⟩ = ((3 : Nat) : Int) ∧ (((wds 10 (t ⟨⟩)).map tx).getD 6 ByteArray.empty).size ≤ 1048576 ∧ 3 ≤ 3 := ⟨hm, ln_size (t ⟨⟩) 6 hsz, by decide⟩
    have g6 : nrOk 3 (((wds 10 (t ⟨⟩)).map tx).getD 6 ByteArray.empty) = true := show gd (t ⟨⟩) 6 = true from allI_at hg (by omega)
    have b7 : ltB 7 ((((IntKind.wrap .i64 (((((wds 10 (t ⟨⟩)).length : Nat)) : Int) - 1)).toNat - 0) : Nat) : Int) = true := by rw [hln, ltB_iff]; omega
    have x7 : (0 : Int) ≤ 7 ∧ (7 : Int) < ((((IntKind.wrap .i64 (((((wds 10 (t ⟨⟩)).length : Nat)) : Int) - 1)).toNat - 0) : Nat) : Int) := by rw [hln]; exact ⟨by omega, by omega⟩
    have y7 : 7 < ((wds 10 (t ⟨⟩)).map tx).length := by rw [List.length_map]; omega
    have z7 : m ⟨⟩ = ((3 : Nat) : Int) ∧ (((wds 10 (t ⟨⟩)).map tx).getD 7 ByteArray.empty).size ≤ 1048576 ∧ 3 ≤ 3 := ⟨hm, ln_size (t ⟨⟩) 7 hsz, by decide⟩
    have g7 : nrOk 3 (((wds 10 (t ⟨⟩)).map tx).getD 7 ByteArray.empty) = true := show gd (t ⟨⟩) 7 = true from allI_at hg (by omega)
    have b8 : ltB 8 ((((IntKind.wrap .i64 (((((wds 10 (t ⟨⟩)).length : Nat)) : Int) - 1)).toNat - 0) : Nat) : Int) = true := by rw [hln, ltB_iff]; omega
    have x8 : (0 : Int) ≤ 8 ∧ (8 : Int) < ((((IntKind.wrap .i64 (((((wds 10 (t ⟨⟩)).length : Nat)) : Int) - 1)).toNat - 0) : Nat) : Int) := by rw [hln]; exact ⟨by omega, by omega⟩
    have y8 : 8 < ((wds 10 (t ⟨⟩)).map tx).length := by rw [List.length_map]; omega
    have z8 : m ⟨⟩ = ((3 : Nat) : Int) ∧ (((wds 10 (t ⟨⟩)).map tx).getD 8 ByteArray.empty).size ≤ 1048576 ∧ 3 ≤ 3 := ⟨hm, ln_size (t ⟨⟩) 8 hsz, by decide⟩
    have g8 : nrOk 3 (((wds 10 (t ⟨⟩)).map tx).getD 8 ByteArray.empty) = true := show gd (t ⟨⟩) 8 = true from allI_at hg (by omega)
    have be : ltB 9 ((((IntKind.wrap .i64 (((((wds 10 (t ⟨⟩)).length : Nat)) : Int) - 1)).toNat - 0) : Nat) : Int) = false := by rw [hln, ltB_no]; omega
    have htl : ((((wds 10 (t ⟨⟩)).map tx).getD (0 + (IntKind.wrap .i64 (((((wds 10 (t ⟨⟩)).length : Nat)) : Int) - 1)).toNat * 1) ByteArray.empty).toList == ({ data := #[] } : ByteArray).toList) = tl (t ⟨⟩) := by rw [hp]; exact tl_form _
    have hx0 : 0 ≤ (IntKind.wrap .i64 (((((wds 10 (t ⟨⟩)).length : Nat)) : Int) - 1)) ∧ (IntKind.wrap .i64 (((((wds 10 (t ⟨⟩)).length : Nat)) : Int) - 1)) < ((((wds 10 (t ⟨⟩)).length : Nat)) : Int) := by rw [hwr]; omega
    have hx1 : 0 + (IntKind.wrap .i64 (((((wds 10 (t ⟨⟩)).length : Nat)) : Int) - 1)).toNat * 1 < ((wds 10 (t ⟨⟩)).map tx).length := by rw [hp, List.length_map]; omega
    refine ⟨_, HLe.refl _, ?_⟩
    cbv
    repeat' first | (refine Ob.mk ?_ ?_; (focus (first | exact hsp | exact hsl | exact x0 | exact y0 | exact z0 | exact g0 | exact x1 | exact y1 | exact z1 | exact g1 | exact x2 | exact y2 | exact z2 | exact g2 | exact x3 | exact y3 | exact z3 | exact g3 | exact x4 | exact y4 | exact z4 | exact g4 | exact x5 | exact y5 | exact z5 | exact g5 | exact x6 | exact y6 | exact z6 | exact g6 | exact x7 | exact y7 | exact z7 | exact g7 | exact x8 | exact y8 | exact z8 | exact g8 | exact htl | exact hx0 | exact hx1 | exact rfl)); cbv) | (refine Br.f t0 ?_; cbv) | (refine Br.t b0 ?_; cbv) | (refine alt_t g0 ?_; cbv) | (refine Br.t b1 ?_; cbv) | (refine alt_t g1 ?_; cbv) | (refine Br.t b2 ?_; cbv) | (refine alt_t g2 ?_; cbv) | (refine Br.t b3 ?_; cbv) | (refine alt_t g3 ?_; cbv) | (refine Br.t b4 ?_; cbv) | (refine alt_t g4 ?_; cbv) | (refine Br.t b5 ?_; cbv) | (refine alt_t g5 ?_; cbv) | (refine Br.t b6 ?_; cbv) | (refine alt_t g6 ?_; cbv) | (refine Br.t b7 ?_; cbv) | (refine alt_t g7 ?_; cbv) | (refine Br.t b8 ?_; cbv) | (refine alt_t g8 ?_; cbv) | (refine Loop.mk 70 ?_; cbv) | (refine Gen.same ?_; cbv) | (refine Br.f be ?_; cbv) | (refine Lex.mk (by kernel_rfl) ?_; cbv)
  · cases hs
end Go.Proofs.YteifneielgnniaaDoor.Sh
end
