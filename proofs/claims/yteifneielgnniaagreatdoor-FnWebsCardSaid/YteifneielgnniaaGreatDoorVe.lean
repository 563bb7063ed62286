/- Lines of a text of a web that are read. No condition. -/
import Derived.Test.YteifneielgnniaaGreatDoorVd
set_option linter.unusedVariables false
set_option linter.unusedSimpArgs false
set_option linter.unusedSectionVars false
section
namespace Go.Proofs.YteifneielgnniaaGreatDoor.Sh
open Go Go.Proofs
/-! ## webs that are read: plain -/
def nl (t : ByteArray) : Nat := (wds 10 t).length - 1
def ln (t : ByteArray) (i : Nat) : ByteArray := ((wds 10 t).map tx).getD i ByteArray.empty
def tl (t : ByteArray) : Bool := (ln t (nl t)).data.toList == []
def gd (t : ByteArray) (i : Nat) : Bool := nrOk 3 (ln t i)
/-- the numbers of the lines from the second on -/
def spF (t : ByteArray) : Nat → List Nat
  | 0 => []
  | k + 1 => spF t k ++ [n3 (ln t (k + 1)) 0, n3 (ln t (k + 1)) 1, n3 (ln t (k + 1)) 2]
def spL (t : ByteArray) : List Nat := spF t (nl t - 1)
def gdTo (t : ByteArray) (k : Nat) : Bool := allI (gd t) k
def okA (t : ByteArray) : Bool := tl t && decide (2 ≤ nl t ∧ nl t ≤ 9)
def wOk (t : ByteArray) : Bool := webOk (n3 (ln t 0) 0) (n3 (ln t 0) 1) (n3 (ln t 0) 2) (spL t) (nl t - 1)
def rwOk (t : ByteArray) : Bool := okA t && gdTo t (nl t) && wOk t
theorem wds_pos (c : UInt8) (t : ByteArray) : 1 ≤ (wds c t).length := splA_pos c (bl t) []
theorem ln_size (t : ByteArray) (i : Nat) (h : t.size ≤ 1048576) : (ln t i).size ≤ 1048576 := by
  have hl : (ln t i).size = ((wds 10 t).getD i []).length := by
    unfold ln
    rw [← bl_len, getD_map tx _ i [] _ tx_e]; rfl
  have h1 := splA_tot 10 (bl t) []
  have key : ∀ (ws : List (List UInt8)) (i : Nat), i < ws.length → (ws.getD i []).length + 1 ≤ sumL ws := by
    intro ws
    induction ws with
    | nil => intro i hi; simp at hi
    | cons w ws ih =>
      intro i hi
      cases i with
      | zero => simp [sumL]
      | succ i => have := ih i (by simpa using hi); simp only [List.getD_cons_succ, sumL]; omega
  have h3 : sumL (wds 10 t) = t.size + 1 := by
    show sumL (splA 10 [] (bl t)) = _
    rw [h1, bl_len]; simp
  rcases Nat.lt_or_ge i (wds 10 t).length with hi | hi
  · have := key _ i hi; omega
  · rw [hl, List.getD, List.getElem?_eq_none hi]; simp
theorem gd_size {t : ByteArray} {i : Nat} (h : gd t i = true) : (ln t i).size = 26 := by
  have := (nr_len h).1; omega
end Go.Proofs.YteifneielgnniaaGreatDoor.Sh
end
section
namespace Go.Proofs.YteifneielgnniaaGreatDoor.Sh
open Go Go.Proofs
/-! ## spec.ReadWeb -/
def sRF (p : ByteArray → Prop) : Spec := hspec fun args H => match args, H with
  | [.c (.s t)], [] => some (.t [.a [.f .f32 fun _ => 0, .f .f32 fun _ => 0, .f .f32 fun _ => 0, .sn], .c (.i .i64 (.l 5))], [], [fun _ => p (t ()), fun _ => (t ()).size ≤ 1048576])
  | _, _ => none
def sRT (p : ByteArray → Prop) : Spec := hspec fun args H => match args, H with
  | [.c (.s t)], [] => some (.t [.a [.f .f32 fun _ => n3 (ln (t ()) 0) 0, .f .f32 fun _ => n3 (ln (t ()) 0) 1, .f .f32 fun _ => n3 (ln (t ()) 0) 2, .sl 0 (.l 0) (.x fun _ => nl (t ()) - 1)], .c (.i .i64 (.l 0))], [some ⟨true, 3, .fl fun _ => spL (t ())⟩], [fun _ => p (t ()), fun _ => (t ()).size ≤ 1048576])
  | _, _ => none
theorem okRF_of {P : Program} {g : Nat} {p : ByteArray → Prop} (h : ∀ t, p t → t.size ≤ 1048576 → ∃ q, q t ∧ Ok P g (sRF q)) : Ok P g (sRF p) := by
  intro args H v H' o hs ho μ W w vs hW hH hr
  unfold sRF hspec at hs
  try dsimp only at hs
  split at hs
  · rename_i t h1 h2
    cases hs
    obtain ⟨q, hq, k⟩ := h _ ho.two.1 ho.two.2
    refine k args H _ _ [fun _ => q (t ()), fun _ => (t ()).size ≤ 1048576] ?_ ?_ μ W w vs hW hH hr
    · unfold sRF hspec; rw [h1, h2]
    · intro r hr'
      simp only [List.mem_cons, List.not_mem_nil, or_false] at hr'
      rcases hr' with rfl | rfl
      · exact hq
      · exact ho.two.2
  · cases hs
theorem okRT_of {P : Program} {g : Nat} {p : ByteArray → Prop} (h : ∀ t, p t → t.size ≤ 1048576 → ∃ q, q t ∧ Ok P g (sRT q)) : Ok P g (sRT p) := by
  intro args H v H' o hs ho μ W w vs hW hH hr
  unfold sRT hspec at hs
  try dsimp only at hs
  split at hs
  · rename_i t h1 h2
    cases hs
    obtain ⟨q, hq, k⟩ := h _ ho.two.1 ho.two.2
    refine k args H _ _ [fun _ => q (t ()), fun _ => (t ()).size ≤ 1048576] ?_ ?_ μ W w vs hW hH hr
    · unfold sRT hspec; rw [h1, h2]
    · intro r hr'
      simp only [List.mem_cons, List.not_mem_nil, or_false] at hr'
      rcases hr' with rfl | rfl
      · exact hq
      · exact ho.two.2
  · cases hs
theorem tl_form (t : ByteArray) : ((ln t (nl t)).toList == ({ data := #[] } : ByteArray).toList) = tl t := by
  unfold tl
  rw [Lib.toList_data, Lib.toList_data]
theorem okA_t {t : ByteArray} (h : okA t = true) : tl t = true ∧ 2 ≤ nl t ∧ nl t ≤ 9 := by
  unfold okA at h
  simpa only [Bool.and_eq_true, decide_eq_true_eq] using h
end Go.Proofs.YteifneielgnniaaGreatDoor.Sh
end
section
namespace Go.Proofs.YteifneielgnniaaGreatDoor.Sh
open Go Go.Proofs
def sLT2 (p : ByteArray → Prop) : Spec := hspec fun args H => match args, H with
  | [.c (.s t), .c (.i .i64 (.x m)), .c (.i .i64 (.x c))], [] => some (.t [.c (.sl 0 (.l 0) (.l 2)), .c (.b (.x fun _ => tl (t ())))], [some ⟨true, 1, .lit [.sl 1 (.l 0) (.x fun _ => 3), .sl 2 (.l 0) (.x fun _ => 3)]⟩, some ⟨true, 1, .fl fun _ => numsOf (ln (t ()) 0)⟩, some ⟨true, 1, .fl fun _ => numsOf (ln (t ()) 1)⟩], [fun _ => p (t ()) ∧ (t ()).size ≤ 1048576 ∧ m () = 3 ∧ c () = 9])
  | _, _ => none
def sLT3 (p : ByteArray → Prop) : Spec := hspec fun args H => match args, H with
  | [.c (.s t), .c (.i .i64 (.x m)), .c (.i .i64 (.x c))], [] => some (.t [.c (.sl 0 (.l 0) (.l 3)), .c (.b (.x fun _ => tl (t ())))], [some ⟨true, 1, .lit [.sl 1 (.l 0) (.x fun _ => 3), .sl 2 (.l 0) (.x fun _ => 3), .sl 3 (.l 0) (.x fun _ => 3)]⟩, some ⟨true, 1, .fl fun _ => numsOf (ln (t ()) 0)⟩, some ⟨true, 1, .fl fun _ => numsOf (ln (t ()) 1)⟩, some ⟨true, 1, .fl fun _ => numsOf (ln (t ()) 2)⟩], [fun _ => p (t ()) ∧ (t ()).size ≤ 1048576 ∧ m () = 3 ∧ c () = 9])
  | _, _ => none
def sLT4 (p : ByteArray → Prop) : Spec := hspec fun args H => match args, H with
  | [.c (.s t), .c (.i .i64 (.x m)), .c (.i .i64 (.x c))], [] => some (.t [.c (.sl 0 (.l 0) (.l 4)), .c (.b (.x fun _ => tl (t ())))], [some ⟨true, 1, .lit [.sl 1 (.l 0) (.x fun _ => 3), .sl 2 (.l 0) (.x fun _ => 3), .sl 3 (.l 0) (.x fun _ => 3), .sl 4 (.l 0) (.x fun _ => 3)]⟩, some ⟨true, 1, .fl fun _ => numsOf (ln (t ()) 0)⟩, some ⟨true, 1, .fl fun _ => numsOf (ln (t ()) 1)⟩, some ⟨true, 1, .fl fun _ => numsOf (ln (t ()) 2)⟩, some ⟨true, 1, .fl fun _ => numsOf (ln (t ()) 3)⟩], [fun _ => p (t ()) ∧ (t ()).size ≤ 1048576 ∧ m () = 3 ∧ c () = 9])
  | _, _ => none
def sLT5 (p : ByteArray → Prop) : Spec := hspec fun args H => match args, H with
  | [.c (.s t), .c (.i .i64 (.x m)), .c (.i .i64 (.x c))], [] => some (.t [.c (.sl 0 (.l 0) (.l 5)), .c (.b (.x fun _ => tl (t ())))], [some ⟨true, 1, .lit [.sl 1 (.l 0) (.x fun _ => 3), .sl 2 (.l 0) (.x fun _ => 3), .sl 3 (.l 0) (.x fun _ => 3), .sl 4 (.l 0) (.x fun _ => 3), .sl 5 (.l 0) (.x fun _ => 3)]⟩, some ⟨true, 1, .fl fun _ => numsOf (ln (t ()) 0)⟩, some ⟨true, 1, .fl fun _ => numsOf (ln (t ()) 1)⟩, some ⟨true, 1, .fl fun _ => numsOf (ln (t ()) 2)⟩, some ⟨true, 1, .fl fun _ => numsOf (ln (t ()) 3)⟩, some ⟨true, 1, .fl fun _ => numsOf (ln (t ()) 4)⟩], [fun _ => p (t ()) ∧ (t ()).size ≤ 1048576 ∧ m () = 3 ∧ c () = 9])
  | _, _ => none
theorem fn56 : FnOk Tryz.prog 56 Tryz.f56 (bodyOf Tryz.f56) := ⟨Tryz.func56, rfl, by rfl⟩
def E56 : Env := fun g => envGetL [(114, ⟨true, s114 10, none⟩), (81, ⟨true, sNo, some (s81T 3, s81F 3)⟩)] g
theorem E56ok : EnvOk Tryz.prog E56 := envOk_cons (ok114 10) (envOk_alt (ok81T 3) (ok81F 3) (envOk_nil _))
end Go.Proofs.YteifneielgnniaaGreatDoor.Sh
end
section
namespace Go.Proofs.YteifneielgnniaaGreatDoor.Sh
open Go Go.Proofs
attribute [local irreducible] wds tx rn rnC rnOk nrOk wAt n3 webOk spL tl nl wOk
set_option maxRecDepth 100000 in
set_option maxHeartbeats 8000000 in
theorem ok21K2 : Ok Tryz.prog 56 (sLT2 fun t => t.size ≤ 243 ∧ nl t = 2 ∧ gdTo t 2 = true) := ok_of_wpaH (E := E56) mixed tts E56ok fn56 fun args H v H' o hs ho => by
  split at hs
  · rename_i t m c
    cases hs
    have hsz : (t ⟨⟩).size ≤ 1048576 := ho.one.2.1
    have hm : m ⟨⟩ = 3 := ho.one.2.2.1
    have hc : c ⟨⟩ = 9 := ho.one.2.2.2
    have h27 : IntKind.wrap .i64 (IntKind.wrap .i64 (9 * m ⟨⟩) * c ⟨⟩) = 243 := by rw [hm, hc]; decide
    have hsp : ({ data := #[10] } : ByteArray) = ({ data := #[10] } : ByteArray) ∧ (t ⟨⟩).size < 4294967281 := ⟨rfl, by omega⟩
    have hpos := wds_pos 10 (t ⟨⟩)
    have hle := wds_le 10 (t ⟨⟩)
    have hwr : (IntKind.wrap .i64 (((((wds 10 (t ⟨⟩)).length : Nat)) : Int) - 1)) = ((nl (t ⟨⟩) : Nat) : Int) := by rw [wrap64 (by omega) (by omega)]; unfold nl; omega
    have hp : 0 + (IntKind.wrap .i64 (((((wds 10 (t ⟨⟩)).length : Nat)) : Int) - 1)).toNat * 1 = nl (t ⟨⟩) := by rw [hwr, Int.toNat_natCast]; omega
    have hsl : (0 : Int) ≤ 0 ∧ 0 ≤ (IntKind.wrap .i64 (((((wds 10 (t ⟨⟩)).length : Nat)) : Int) - 1)) ∧ (IntKind.wrap .i64 (((((wds 10 (t ⟨⟩)).length : Nat)) : Int) - 1)) ≤ ((((wds 10 (t ⟨⟩)).length : Nat)) : Int) := by rw [hwr]; unfold nl; omega
    have hnl : nl (t ⟨⟩) = (wds 10 (t ⟨⟩)).length - 1 := by unfold nl; rfl
    have h243 : (t ⟨⟩).size ≤ 243 := ho.one.1.1
    have hn : nl (t ⟨⟩) = 2 := ho.one.1.2.1
    have hg : gdTo (t ⟨⟩) 2 = true := ho.one.1.2.2
    have t0 : ltB (IntKind.wrap .i64 (IntKind.wrap .i64 (9 * m ⟨⟩) * c ⟨⟩)) (((t ⟨⟩).size : Nat) : Int) = false := by rw [h27, ltB_no]; omega
    have hln : ((IntKind.wrap .i64 (((((wds 10 (t ⟨⟩)).length : Nat)) : Int) - 1)).toNat - 0) = nl (t ⟨⟩) := by rw [hwr, Int.toNat_natCast]; omega
    have b0 : ltB 0 ((((IntKind.wrap .i64 (((((wds 10 (t ⟨⟩)).length : Nat)) : Int) - 1)).toNat - 0) : Nat) : Int) = true := by rw [hln, ltB_iff]; omega
    have x0 : (0 : Int) ≤ 0 ∧ (0 : Int) < ((((IntKind.wrap .i64 (((((wds 10 (t ⟨⟩)).length : Nat)) : Int) - 1)).toNat - 0) : Nat) : Int) := by rw [hln]; exact ⟨by omega, by omega⟩
    have y0 : 0 < ((wds 10 (t ⟨⟩)).map tx).length := by rw [List.length_map]; omega
    have z0 : m ⟨⟩ = ((3 : Nat) : Int) ∧ (((wds 10 (t ⟨⟩)).map tx).getD 0 ByteArray.empty).size ≤ 1048576 ∧ 3 ≤ 3 := ⟨hm, ln_size (t ⟨⟩) 0 hsz, by decide⟩
    have g0 : nrOk 3 (((wds 10 (t ⟨⟩)).map tx).getD 0 ByteArray.empty) = true := show gd (t ⟨⟩) 0 = true from allI_at hg (by omega)
    have b1 : ltB 1 ((((IntKind.wrap .i64 (((((wds 10 (t ⟨⟩)).length : Nat)) : Int) - 1)).toNat - 0) : Nat) : Int) = true := by rw [hln, ltB_iff]; omega
    have x1 : (0 : Int) ≤ 1 ∧ (1 : Int) < ((((IntKind.wrap .i64 (((((wds 10 (t ⟨⟩)).length : Nat)) : Int) - 1)).toNat - 0) : Nat) : Int) := by rw [hln]; exact ⟨by omega, by omega⟩
    have y1 : 1 < ((wds 10 (t ⟨⟩)).map tx).length := by rw [List.length_map]; omega
    have z1 : m ⟨⟩ = ((3 : Nat) : Int) ∧ (((wds 10 (t ⟨⟩)).map tx).getD 1 ByteArray.empty).size ≤ 1048576 ∧ 3 ≤ 3 := ⟨hm, ln_size (t ⟨⟩) 1 hsz, by decide⟩
    have g1 : nrOk 3 (((wds 10 (t ⟨⟩)).map tx).getD 1 ByteArray.empty) = true := show gd (t ⟨⟩) 1 = true from allI_at hg (by omega)
    have be : ltB 2 ((((IntKind.wrap .i64 (((((wds 10 (t ⟨⟩)).length : Nat)) : Int) - 1)).toNat - 0) : Nat) : Int) = false := by rw [hln, ltB_no]; omega
    have htl : ((((wds 10 (t ⟨⟩)).map tx).getD (0 + (IntKind.wrap .i64 (((((wds 10 (t ⟨⟩)).length : Nat)) : Int) - 1)).toNat * 1) ByteArray.empty).toList == ({ data := #[] } : ByteArray).toList) = tl (t ⟨⟩) := by rw [hp]; exact tl_form _
    have hx0 : 0 ≤ (IntKind.wrap .i64 (((((wds 10 (t ⟨⟩)).length : Nat)) : Int) - 1)) ∧ (IntKind.wrap .i64 (((((wds 10 (t ⟨⟩)).length : Nat)) : Int) - 1)) < ((((wds 10 (t ⟨⟩)).length : Nat)) : Int) := by rw [hwr]; omega
    have hx1 : 0 + (IntKind.wrap .i64 (((((wds 10 (t ⟨⟩)).length : Nat)) : Int) - 1)).toNat * 1 < ((wds 10 (t ⟨⟩)).map tx).length := by rw [hp, List.length_map]; omega
    refine ⟨_, HLe.refl _, ?_⟩
    cbv
    repeat' first | (refine Ob.mk ?_ ?_; (focus (first | exact hsp | exact hsl | exact x0 | exact y0 | exact z0 | exact g0 | exact x1 | exact y1 | exact z1 | exact g1 | exact htl | exact hx0 | exact hx1 | exact rfl)); cbv) | (refine Br.f t0 ?_; cbv) | (refine Br.t b0 ?_; cbv) | (refine alt_t g0 ?_; cbv) | (refine Br.t b1 ?_; cbv) | (refine alt_t g1 ?_; cbv) | (refine Loop.mk 70 ?_; cbv) | (refine Gen.same ?_; cbv) | (refine Br.f be ?_; cbv) | (refine Lex.mk (by kernel_rfl) ?_; cbv)
  · cases hs
end Go.Proofs.YteifneielgnniaaGreatDoor.Sh
end
section
namespace Go.Proofs.YteifneielgnniaaGreatDoor.Sh
open Go Go.Proofs
attribute [local irreducible] wds tx rn rnC rnOk nrOk wAt n3 webOk spL tl nl wOk
set_option maxRecDepth 100000 in
set_option maxHeartbeats 8000000 in
theorem ok21K3 : Ok Tryz.prog 56 (sLT3 fun t => t.size ≤ 243 ∧ nl t = 3 ∧ gdTo t 3 = true) := ok_of_wpaH (E := E56) mixed tts E56ok fn56 fun args H v H' o hs ho => by
  split at hs
  · rename_i t m c
    cases hs
    have hsz : (t ⟨⟩).size ≤ 1048576 := ho.one.2.1
    have hm : m ⟨⟩ = 3 := ho.one.2.2.1
    have hc : c ⟨⟩ = 9 := ho.one.2.2.2
    have h27 : IntKind.wrap .i64 (IntKind.wrap .i64 (9 * m ⟨⟩) * c ⟨⟩) = 243 := by rw [hm, hc]; decide
    have hsp : ({ data := #[10] } : ByteArray) = ({ data := #[10] } : ByteArray) ∧ (t ⟨⟩).size < 4294967281 := ⟨rfl, by omega⟩
    have hpos := wds_pos 10 (t ⟨⟩)
    have hle := wds_le 10 (t ⟨⟩)
    have hwr : (IntKind.wrap .i64 (((((wds 10 (t ⟨⟩)).length : Nat)) : Int) - 1)) = ((nl (t ⟨⟩) : Nat) : Int) := by rw [wrap64 (by omega) (by omega)]; unfold nl; omega
    have hp : 0 + (IntKind.wrap .i64 (((((wds 10 (t ⟨⟩)).length : Nat)) : Int) - 1)).toNat * 1 = nl (t ⟨⟩) := by rw [hwr, Int.toNat_natCast]; omega
    have hsl : (0 : Int) ≤ 0 ∧ 0 ≤ (IntKind.wrap .i64 (((((wds 10 (t ⟨⟩)).length : Nat)) : Int) - 1)) ∧ (IntKind.wrap .i64 (((((wds 10 (t ⟨⟩)).length : Nat)) : Int) - 1)) ≤ ((((wds 10 (t ⟨⟩)).length : Nat)) : Int) := by rw [hwr]; unfold nl; omega
    have hnl : nl (t ⟨⟩) = (wds 10 (t ⟨⟩)).length - 1 := by unfold nl; rfl
    have h243 : (t ⟨⟩).size ≤ 243 := ho.one.1.1
    have hn : nl (t ⟨⟩) = 3 := ho.one.1.2.1
    have hg : gdTo (t ⟨⟩) 3 = true := ho.one.1.2.2
    have t0 : ltB (IntKind.wrap .i64 (IntKind.wrap .i64 (9 * m ⟨⟩) * c ⟨⟩)) (((t ⟨⟩).size : Nat) : Int) = false := by rw [h27, ltB_no]; omega
    have hln : ((IntKind.wrap .i64 (((((wds 10 (t ⟨⟩)).length : Nat)) : Int) - 1)).toNat - 0) = nl (t ⟨⟩) := by rw [hwr, Int.toNat_natCast]; omega
    have b0 : ltB 0 ((((IntKind.wrap .i64 (((((wds 10 (t ⟨⟩)).length : Nat)) : Int) - 1)).toNat - 0) : Nat) : Int) = true := by rw [hln, ltB_iff]; omega
    have x0 : (0 : Int) ≤ 0 ∧ (0 : Int) < ((((IntKind.wrap .i64 (((((wds 10 (t ⟨⟩)).length : Nat)) : Int) - 1)).toNat - 0) : Nat) : Int) := by rw [hln]; exact ⟨by omega, by omega⟩
    have y0 : 0 < ((wds 10 (t ⟨⟩)).map tx).length := by rw [List.length_map]; omega
    have z0 : m ⟨⟩ = ((3 : Nat) : Int) ∧ (((wds 10 (t ⟨⟩)).map tx).getD 0 ByteArray.empty).size ≤ 1048576 ∧ 3 ≤ 3 := ⟨hm, ln_size (t ⟨⟩) 0 hsz, by decide⟩
    have g0 : nrOk 3 (((wds 10 (t ⟨⟩)).map tx).getD 0 ByteArray.empty) = true := show gd (t ⟨⟩) 0 = true from allI_at hg (by omega)
    have b1 : ltB 1 ((((IntKind.wrap .i64 (((((wds 10 (t ⟨⟩)).length : Nat)) : Int) - 1)).toNat - 0) : Nat) : Int) = true := by rw [hln, ltB_iff]; omega
    have x1 : (0 : Int) ≤ 1 ∧ (1 : Int) < ((((IntKind.wrap .i64 (((((wds 10 (t ⟨⟩)).length : Nat)) : Int) - 1)).toNat - 0) : Nat) : Int) := by rw [hln]; exact ⟨by omega, by omega⟩
    have y1 : 1 < ((wds 10 (t ⟨⟩)).map tx).length := by rw [List.length_map]; omega
    have z1 : m ⟨⟩ = ((3 : Nat) : Int) ∧ (((wds 10 (t ⟨⟩)).map tx).getD 1 ByteArray.empty).size ≤ 1048576 ∧ 3 ≤ 3 := ⟨hm, ln_size (t ⟨⟩) 1 hsz, by decide⟩
    have g1 : nrOk 3 (((wds 10 (t ⟨⟩)).map tx).getD 1 ByteArray.empty) = true := show gd (t ⟨⟩) 1 = true from allI_at hg (by omega)
    have b2 : ltB 2 ((((IntKind.wrap .i64 (((((wds 10 (t ⟨⟩)).length : Nat)) : Int) - 1)).toNat - 0) : Nat) : Int) = true := by rw [hln, ltB_iff]; omega
    have x2 : (0 : Int) ≤ 2 ∧ (2 : Int) < ((((IntKind.wrap .i64 (((((wds 10 (t ⟨⟩)).length : Nat)) : Int) - 1)).toNat - 0) : Nat) : Int) := by rw [hln]; exact ⟨by omega, by omega⟩
    have y2 : 2 < ((wds 10 (t ⟨⟩)).map tx).length := by rw [List.length_map]; omega
    have z2 : m ⟨⟩ = ((3 : Nat) : Int) ∧ (((wds 10 (t ⟨⟩)).map tx).getD 2 ByteArray.empty).size ≤ 1048576 ∧ 3 ≤ 3 := ⟨hm, ln_size (t ⟨⟩) 2 hsz, by decide⟩
    have g2 : nrOk 3 (((wds 10 (t ⟨⟩)).map tx).getD 2 ByteArray.empty) = true := show gd (t ⟨⟩) 2 = true from allI_at hg (by omega)
    have be : ltB 3 ((((IntKind.wrap .i64 (((((wds 10 (t ⟨⟩)).length : Nat)) : Int) - 1)).toNat - 0) : Nat) : Int) = false := by rw [hln, ltB_no]; omega
    have htl : ((((wds 10 (t ⟨⟩)).map tx).getD (0 + (IntKind.wrap .i64 (((((wds 10 (t ⟨⟩)).length : Nat)) : Int) - 1)).toNat * 1) ByteArray.empty).toList == ({ data := #[] } : ByteArray).toList) = tl (t ⟨⟩) := by rw [hp]; exact tl_form _
    have hx0 : 0 ≤ (IntKind.wrap .i64 (((((wds 10 (t ⟨⟩)).length : Nat)) : Int) - 1)) ∧ (IntKind.wrap .i64 (((((wds 10 (t ⟨⟩)).length : Nat)) : Int) - 1)) < ((((wds 10 (t ⟨⟩)).length : Nat)) : Int) := by rw [hwr]; omega
    have hx1 : 0 + (IntKind.wrap .i64 (((((wds 10 (t ⟨⟩)).length : Nat)) : Int) - 1)).toNat * 1 < ((wds 10 (t ⟨⟩)).map tx).length := by rw [hp, List.length_map]; omega
    refine ⟨_, HLe.refl _, ?_⟩
    cbv
    repeat' first | (refine Ob.mk ?_ ?_; (focus (first | exact hsp | exact hsl | exact x0 | exact y0 | exact z0 | exact g0 | exact x1 | exact y1 | exact z1 | exact g1 | exact x2 | exact y2 | exact z2 | exact g2 | exact htl | exact hx0 | exact hx1 | exact rfl)); cbv) | (refine Br.f t0 ?_; cbv) | (refine Br.t b0 ?_; cbv) | (refine alt_t g0 ?_; cbv) | (refine Br.t b1 ?_; cbv) | (refine alt_t g1 ?_; cbv) | (refine Br.t b2 ?_; cbv) | (refine alt_t g2 ?_; cbv) | (refine Loop.mk 70 ?_; cbv) | (refine Gen.same ?_; cbv) | (refine Br.f be ?_; cbv) | (refine Lex.mk (by kernel_rfl) ?_; cbv)
  · cases hs
end Go.Proofs.YteifneielgnniaaGreatDoor.Sh
end
section
namespace Go.Proofs.YteifneielgnniaaGreatDoor.Sh
open Go Go.Proofs
attribute [local irreducible] wds tx rn rnC rnOk nrOk wAt n3 webOk spL tl nl wOk
set_option maxRecDepth 100000 in
set_option maxHeartbeats 8000000 in
theorem ok21K4 : Ok Tryz.prog 56 (sLT4 fun t => t.size ≤ 243 ∧ nl t = 4 ∧ gdTo t 4 = true) := ok_of_wpaH (E := E56) mixed tts E56ok fn56 fun args H v H' o hs ho => by
  split at hs
  · rename_i t m c
    cases hs
    have hsz : (t ⟨⟩).size ≤ 1048576 := ho.one.2.1
    have hm : m ⟨⟩ = 3 := ho.one.2.2.1
    have hc : c ⟨⟩ = 9 := ho.one.2.2.2
    have h27 : IntKind.wrap .i64 (IntKind.wrap .i64 (9 * m ⟨⟩) * c ⟨⟩) = 243 := by rw [hm, hc]; decide
    have hsp : ({ data := #[10] } : ByteArray) = ({ data := #[10] } : ByteArray) ∧ (t ⟨⟩).size < 4294967281 := ⟨rfl, by omega⟩
    have hpos := wds_pos 10 (t ⟨⟩)
    have hle := wds_le 10 (t ⟨⟩)
    have hwr : (IntKind.wrap .i64 (((((wds 10 (t ⟨⟩)).length : Nat)) : Int) - 1)) = ((nl (t ⟨⟩) : Nat) : Int) := by rw [wrap64 (by omega) (by omega)]; unfold nl; omega
    have hp : 0 + (IntKind.wrap .i64 (((((wds 10 (t ⟨⟩)).length : Nat)) : Int) - 1)).toNat * 1 = nl (t ⟨⟩) := by rw [hwr, Int.toNat_natCast]; omega
    have hsl : (0 : Int) ≤ 0 ∧ 0 ≤ (IntKind.wrap .i64 (((((wds 10 (t ⟨⟩)).length : Nat)) : Int) - 1)) ∧ (IntKind.wrap .i64 (((((wds 10 (t ⟨⟩)).length : Nat)) : Int) - 1)) ≤ ((((wds 10 (t ⟨⟩)).length : Nat)) : Int) := by rw [hwr]; unfold nl; omega
    have hnl : nl (t ⟨⟩) = (wds 10 (t ⟨⟩)).length - 1 := by unfold nl; rfl
    have h243 : (t ⟨⟩).size ≤ 243 := ho.one.1.1
    have hn : nl (t ⟨⟩) = 4 := ho.one.1.2.1
    have hg : gdTo (t ⟨⟩) 4 = true := ho.one.1.2.2
    have t0 : ltB (IntKind.wrap .i64 (IntKind.wrap .i64 (9 * m ⟨⟩) * c ⟨⟩)) (((t ⟨⟩).size : Nat) : Int) = false := by rw [h27, ltB_no]; omega
    have hln : ((IntKind.wrap .i64 (((((wds 10 (t ⟨⟩)).length : Nat)) : Int) - 1)).toNat - 0) = nl (t ⟨⟩) := by rw [hwr, Int.toNat_natCast]; omega
    have b0 : ltB 0 ((((IntKind.wrap .i64 (((((wds 10 (t ⟨⟩)).length : Nat)) : Int) - 1)).toNat - 0) : Nat) : Int) = true := by rw [hln, ltB_iff]; omega
    have x0 : (0 : Int) ≤ 0 ∧ (0 : Int) < ((((IntKind.wrap .i64 (((((wds 10 (t ⟨⟩)).length : Nat)) : Int) - 1)).toNat - 0) : Nat) : Int) := by rw [hln]; exact ⟨by omega, by omega⟩
    have y0 : 0 < ((wds 10 (t ⟨⟩)).map tx).length := by rw [List.length_map]; omega
    have z0 : m ⟨⟩ = ((3 : Nat) : Int) ∧ (((wds 10 (t ⟨⟩)).map tx).getD 0 ByteArray.empty).size ≤ 1048576 ∧ 3 ≤ 3 := ⟨hm, ln_size (t ⟨⟩) 0 hsz, by decide⟩
    have g0 : nrOk 3 (((wds 10 (t ⟨⟩)).map tx).getD 0 ByteArray.empty) = true := show gd (t ⟨⟩) 0 = true from allI_at hg (by omega)
    have b1 : ltB 1 ((((IntKind.wrap .i64 (((((wds 10 (t ⟨⟩)).length : Nat)) : Int) - 1)).toNat - 0) : Nat) : Int) = true := by rw [hln, ltB_iff]; omega
    have x1 : (0 : Int) ≤ 1 ∧ (1 : Int) < ((((IntKind.wrap .i64 (((((wds 10 (t ⟨⟩)).length : Nat)) : Int) - 1)).toNat - 0) : Nat) : Int) := by rw [hln]; exact ⟨by omega, by omega⟩
    have y1 : 1 < ((wds 10 (t ⟨⟩)).map tx).length := by rw [List.length_map]; omega
    have z1 : m ⟨⟩ = ((3 : Nat) : Int) ∧ (((wds 10 (t ⟨⟩)).map tx).getD 1 ByteArray.empty).size ≤ 1048576 ∧ 3 ≤ 3 := ⟨hm, ln_size (t ⟨⟩) 1 hsz, by decide⟩
    have g1 : nrOk 3 (((wds 10 (t ⟨⟩)).map tx).getD 1 ByteArray.empty) = true := show gd (t ⟨⟩) 1 = true from allI_at hg (by omega)
    have b2 : ltB 2 ((((IntKind.wrap .i64 (((((wds 10 (t ⟨⟩)).length : Nat)) : Int) - 1)).toNat - 0) : Nat) : Int) = true := by rw [hln, ltB_iff]; omega
    have x2 : (0 : Int) ≤ 2 ∧ (2 : Int) < ((((IntKind.wrap .i64 (((((wds 10 (t ⟨⟩)).length : Nat)) : Int) - 1)).toNat - 0) : Nat) : Int) := by rw [hln]; exact ⟨by omega, by omega⟩
    have y2 : 2 < ((wds 10 (t ⟨⟩)).map tx).length := by rw [List.length_map]; omega
    have z2 : m ⟨⟩ = ((3 : Nat) : Int) ∧ (((wds 10 (t ⟨⟩)).map tx).getD 2 ByteArray.empty).size ≤ 1048576 ∧ 3 ≤ 3 := ⟨hm, ln_size (t ⟨⟩) 2 hsz, by decide⟩
    have g2 : nrOk 3 (((wds 10 (t ⟨⟩)).map tx).getD 2 ByteArray.empty) = true := show gd (t ⟨⟩) 2 = true from allI_at hg (by omega)
    have b3 : ltB 3 ((((IntKind.wrap .i64 (((((wds 10 (t ⟨⟩)).length : Nat)) : Int) - 1)).toNat - 0) : Nat) : Int) = true := by rw [hln, ltB_iff]; omega
    have x3 : (0 : Int) ≤ 3 ∧ (3 : Int) < ((((IntKind.wrap .i64 (((((wds 10 (t ⟨⟩)).length : Nat)) : Int) - 1)).toNat - 0) : Nat) : Int) := by rw [hln]; exact ⟨by omega, by omega⟩
    have y3 : 3 < ((wds 10 (t ⟨⟩)).map tx).length := by rw [List.length_map]; omega
    have z3 : m ⟨⟩ = ((3 : Nat) : Int) ∧ (((wds 10 (t ⟨⟩)).map tx).getD 3 ByteArray.empty).size ≤ 1048576 ∧ 3 ≤ 3 := ⟨hm, ln_size (t ⟨⟩) 3 hsz, by decide⟩
    have g3 : nrOk 3 (((wds 10 (t ⟨⟩)).map tx).getD 3 ByteArray.empty) = true := show gd (t ⟨⟩) 3 = true from allI_at hg (by omega)
    have be : ltB 4 ((((IntKind.wrap .i64 (((((wds 10 (t ⟨⟩)).length : Nat)) : Int) - 1)).toNat - 0) : Nat) : Int) = false := by rw [hln, ltB_no]; omega
    have htl : ((((wds 10 (t ⟨⟩)).map tx).getD (0 + (IntKind.wrap .i64 (((((wds 10 (t ⟨⟩)).length : Nat)) : Int) - 1)).toNat * 1) ByteArray.empty).toList == ({ data := #[] } : ByteArray).toList) = tl (t ⟨⟩) := by rw [hp]; exact tl_form _
    have hx0 : 0 ≤ (IntKind.wrap .i64 (((((wds 10 (t ⟨⟩)).length : Nat)) : Int) - 1)) ∧ (IntKind.wrap .i64 (((((wds 10 (t ⟨⟩)).length : Nat)) : Int) - 1)) < ((((wds 10 (t ⟨⟩)).length : Nat)) : Int) := by rw [hwr]; omega
    have hx1 : 0 + (IntKind.wrap .i64 (((((wds 10 (t ⟨⟩)).length : Nat)) : Int) - 1)).toNat * 1 < ((wds 10 (t ⟨⟩)).map tx).length := by rw [hp, List.length_map]; omega
    refine ⟨_, HLe.refl _, ?_⟩
    cbv
    repeat' first | (refine Ob.mk ?_ ?_; (focus (first | exact hsp | exact hsl | exact x0 | exact y0 | exact z0 | exact g0 | exact x1 | exact y1 | exact z1 | exact g1 | exact x2 | exact y2 | exact z2 | exact g2 | exact x3 | exact y3 | exact z3 | exact g3 | exact htl | exact hx0 | exact hx1 | exact rfl)); cbv) | (refine Br.f t0 ?_; cbv) | (refine Br.t b0 ?_; cbv) | (refine alt_t g0 ?_; cbv) | (refine Br.t b1 ?_; cbv) | (refine alt_t g1 ?_; cbv) | (refine Br.t b2 ?_; cbv) | (refine alt_t g2 ?_; cbv) | (refine Br.t b3 ?_; cbv) | (refine alt_t g3 ?_; cbv) | (refine Loop.mk 70 ?_; cbv) | (refine Gen.same ?_; cbv) | (refine Br.f be ?_; cbv) | (refine Lex.mk (by kernel_rfl) ?_; cbv)
  · cases hs
end Go.Proofs.YteifneielgnniaaGreatDoor.Sh
end
section
namespace Go.Proofs.YteifneielgnniaaGreatDoor.Sh
open Go Go.Proofs
attribute [local irreducible] wds tx rn rnC rnOk nrOk wAt n3 webOk spL tl nl wOk
set_option maxRecDepth 100000 in
set_option maxHeartbeats 8000000 in
theorem ok21K5 : Ok Tryz.prog 56 (sLT5 fun t => t.size ≤ 243 ∧ nl t = 5 ∧ gdTo t 5 = true) := ok_of_wpaH (E := E56) mixed tts E56ok fn56 fun args H v H' o hs ho => by
  split at hs
  · rename_i t m c
    cases hs
    have hsz : (t ⟨⟩).size ≤ 1048576 := ho.one.2.1
    have hm : m ⟨⟩ = 3 := ho.one.2.2.1
    have hc : c ⟨⟩ = 9 := ho.one.2.2.2
    have h27 : IntKind.wrap .i64 (IntKind.wrap .i64 (9 * m ⟨⟩) * c ⟨⟩) = 243 := by rw [hm, hc]; decide
    have hsp : ({ data := #[10] } : ByteArray) = ({ data := #[10] } : ByteArray) ∧ (t ⟨⟩).size < 4294967281 := ⟨rfl, by omega⟩
    have hpos := wds_pos 10 (t ⟨⟩)
    have hle := wds_le 10 (t ⟨⟩)
    have hwr : (IntKind.wrap .i64 (((((wds 10 (t ⟨⟩)).length : Nat)) : Int) - 1)) = ((nl (t ⟨⟩) : Nat) : Int) := by rw [wrap64 (by omega) (by omega)]; unfold nl; omega
    have hp : 0 + (IntKind.wrap .i64 (((((wds 10 (t ⟨⟩)).length : Nat)) : Int) - 1)).toNat * 1 = nl (t ⟨⟩) := by rw [hwr, Int.toNat_natCast]; omega
    have hsl : (0 : Int) ≤ 0 ∧ 0 ≤ (IntKind.wrap .i64 (((((wds 10 (t ⟨⟩)).length : Nat)) : Int) - 1)) ∧ (IntKind.wrap .i64 (((((wds 10 (t ⟨⟩)).length : Nat)) : Int) - 1)) ≤ ((((wds 10 (t ⟨⟩)).length : Nat)) : Int) := by rw [hwr]; unfold nl; omega
    have hnl : nl (t ⟨⟩) = (wds 10 (t ⟨⟩)).length - 1 := by unfold nl; rfl
    have h243 : (t ⟨⟩).size ≤ 243 := ho.one.1.1
    have hn : nl (t ⟨⟩) = 5 := ho.one.1.2.1
    have hg : gdTo (t ⟨⟩) 5 = true := ho.one.1.2.2
    have t0 : ltB (IntKind.wrap .i64 (IntKind.wrap .i64 (9 * m ⟨⟩) * c ⟨⟩)) (((t ⟨⟩).size : Nat) : Int) = false := by rw [h27, ltB_no]; omega
    have hln : ((IntKind.wrap .i64 (((((wds 10 (t ⟨⟩)).length : Nat)) : Int) - 1)).toNat - 0) = nl (t ⟨⟩) := by rw [hwr, Int.toNat_natCast]; omega
    have b0 : ltB 0 ((((IntKind.wrap .i64 (((((wds 10 (t ⟨⟩)).length : Nat)) : Int) - 1)).toNat - 0) : Nat) : Int) = true := by rw [hln, ltB_iff]; omega
    have x0 : (0 : Int) ≤ 0 ∧ (0 : Int) < ((((IntKind.wrap .i64 (((((wds 10 (t ⟨⟩)).length : Nat)) : Int) - 1)).toNat - 0) : Nat) : Int) := by rw [hln]; exact ⟨by omega, by omega⟩
    have y0 : 0 < ((wds 10 (t ⟨⟩)).map tx).length := by rw [List.length_map]; omega
    have z0 : m ⟨⟩ = ((3 : Nat) : Int) ∧ (((wds 10 (t ⟨⟩)).map tx).getD 0 ByteArray.empty).size ≤ 1048576 ∧ 3 ≤ 3 := ⟨hm, ln_size (t ⟨⟩) 0 hsz, by decide⟩
    have g0 : nrOk 3 (((wds 10 (t ⟨⟩)).map tx).getD 0 ByteArray.empty) = true := show gd (t ⟨⟩) 0 = true from allI_at hg (by omega)
    have b1 : ltB 1 ((((IntKind.wrap .i64 (((((wds 10 (t ⟨⟩)).length : Nat)) : Int) - 1)).toNat - 0) : Nat) : Int) = true := by rw [hln, ltB_iff]; omega
    have x1 : (0 : Int) ≤ 1 ∧ (1 : Int) < ((((IntKind.wrap .i64 (((((wds 10 (t ⟨⟩)).length : Nat)) : Int) - 1)).toNat - 0) : Nat) : Int) := by rw [hln]; exact ⟨by omega, by omega⟩
    have y1 : 1 < ((wds 10 (t ⟨⟩)).map tx).length := by rw [List.length_map]; omega
    have z1 : m ⟨⟩ = ((3 : Nat) : Int) ∧ (((wds 10 (t ⟨⟩)).map tx).getD 1 ByteArray.empty).size ≤ 1048576 ∧ 3 ≤ 3 := ⟨hm, ln_size (t ⟨⟩) 1 hsz, by decide⟩
    have g1 : nrOk 3 (((wds 10 (t ⟨⟩)).map tx).getD 1 ByteArray.empty) = true := show gd (t ⟨⟩) 1 = true from allI_at hg (by omega)
    have b2 : ltB 2 ((((IntKind.wrap .i64 (((((wds 10 (t ⟨⟩)).length : Nat)) : Int) - 1)).toNat - 0) : Nat) : Int) = true := by rw [hln, ltB_iff]; omega
    have x2 : (0 : Int) ≤ 2 ∧ (2 : Int) < ((((IntKind.wrap .i64 (((((wds 10 (t ⟨⟩)).length : Nat)) : Int) - 1)).toNat - 0) : Nat) : Int) := by rw [hln]; exact ⟨by omega, by omega⟩
    have y2 : 2 < ((wds 10 (t ⟨⟩)).map tx).length := by rw [List.length_map]; omega
    have z2 : m ⟨⟩ = ((3 : Nat) : Int) ∧ (((wds 10 (t ⟨⟩)).map tx).getD 2 ByteArray.empty).size ≤ 1048576 ∧ 3 ≤ 3 := ⟨hm, ln_size (t ⟨⟩) 2 hsz, by decide⟩
    have g2 : nrOk 3 (((wds 10 (t ⟨⟩)).map tx).getD 2 ByteArray.empty) = true := show gd (t ⟨⟩) 2 = true from allI_at hg (by omega)
    have b3 : ltB 3 ((((IntKind.wrap .i64 (((((wds 10 (t ⟨⟩)).length : Nat)) : Int) - 1)).toNat - 0) : Nat) : Int) = true := by rw [hln, ltB_iff]; omega
    have x3 : (0 : Int) ≤ 3 ∧ (3 : Int) < ((((IntKind.wrap .i64 (((((wds 10 (t ⟨⟩)).length : Nat)) : Int) - 1)).toNat - 0) : Nat) : Int) := by rw [hln]; exact ⟨by omega, by omega⟩
    have y3 : 3 < ((wds 10 (t ⟨⟩)).map tx).length := by rw [List.length_map]; omega
    have z3 : m ⟨⟩ = ((3 : Nat) : Int) ∧ (((wds 10 (t ⟨⟩)).map tx).getD 3 ByteArray.empty).size ≤ 1048576 ∧ 3 ≤ 3 := ⟨hm, ln_size (t ⟨⟩) 3 hsz, by decide⟩
    have g3 : nrOk 3 (((wds 10 (t ⟨⟩)).map tx).getD 3 ByteArray.empty) = true := show gd (t ⟨⟩) 3 = true from allI_at hg (by omega)
    have b4 : ltB 4 ((((IntKind.wrap .i64 (((((wds 10 (t ⟨⟩)).length : Nat)) : Int) - 1)).toNat - 0) : Nat) : Int) = true := by rw [hln, ltB_iff]; omega
    have x4 : (0 : Int) ≤ 4 ∧ (4 : Int) < ((((IntKind.wrap .i64 (((((wds 10 (t ⟨⟩)).length : Nat)) : Int) - 1)).toNat - 0) : Nat) : Int) := by rw [hln]; exact ⟨by omega, by omega⟩
    have y4 : 4 < ((wds 10 (t ⟨⟩)).map tx).length := by rw [List.length_map]; omega
    have z4 : m ⟨⟩ = ((3 : Nat) : Int) ∧ (((wds 10 (t ⟨⟩)).map tx).getD 4 ByteArray.empty).size ≤ 1048576 ∧ 3 ≤ 3 := ⟨hm, ln_size (t ⟨⟩) 4 hsz, by decide⟩
    have g4 : nrOk 3 (((wds 10 (t ⟨⟩)).map tx).getD 4 ByteArray.empty) = true := show gd (t ⟨⟩) 4 = true from allI_at hg (by omega)
    have be : ltB 5 ((((IntKind.wrap .i64 (((((wds 10 (t ⟨⟩)).length : Nat)) : Int) - 1)).toNat - 0) : Nat) : Int) = false := by rw [hln, ltB_no]; omega
    have htl : ((((wds 10 (t ⟨⟩)).map tx).getD (0 + (IntKind.wrap .i64 (((((wds 10 (t ⟨⟩)).length : Nat)) : Int) - 1)).toNat * 1) ByteArray.empty).toList == ({ data := #[] } : ByteArray).toList) = tl (t ⟨⟩) := by rw [hp]; exact tl_form _
    have hx0 : 0 ≤ (IntKind.wrap .i64 (((((wds 10 (t ⟨⟩)).length : Nat)) : Int) - 1)) ∧ (IntKind.wrap .i64 (((((wds 10 (t ⟨⟩)).length : Nat)) : Int) - 1)) < ((((wds 10 (t ⟨⟩)).length : Nat)) : Int) := by rw [hwr]; omega
    have hx1 : 0 + (IntKind.wrap .i64 (((((wds 10 (t ⟨⟩)).length : Nat)) : Int) - 1)).toNat * 1 < ((wds 10 (t ⟨⟩)).map tx).length := by rw [hp, List.length_map]; omega
    refine ⟨_, HLe.refl _, ?_⟩
    cbv
    repeat' first | (refine Ob.mk ?_ ?_; (focus (first | exact hsp | exact hsl | exact x0 | exact y0 | exact z0 | exact g0 | exact x1 | exact y1 | exact z1 | exact g1 | exact x2 | exact y2 | exact z2 | exact g2 | exact x3 | exact y3 | exact z3 | exact g3 | exact x4 | exact y4 | exact z4 | exact g4 | exact htl | exact hx0 | exact hx1 | exact rfl)); cbv) | (refine Br.f t0 ?_; cbv) | (refine Br.t b0 ?_; cbv) | (refine alt_t g0 ?_; cbv) | (refine Br.t b1 ?_; cbv) | (refine alt_t g1 ?_; cbv) | (refine Br.t b2 ?_; cbv) | (refine alt_t g2 ?_; cbv) | (refine Br.t b3 ?_; cbv) | (refine alt_t g3 ?_; cbv) | (refine Br.t b4 ?_; cbv) | (refine alt_t g4 ?_; cbv) | (refine Loop.mk 70 ?_; cbv) | (refine Gen.same ?_; cbv) | (refine Br.f be ?_; cbv) | (refine Lex.mk (by kernel_rfl) ?_; cbv)
  · cases hs
end Go.Proofs.YteifneielgnniaaGreatDoor.Sh
end
section
namespace Go.Proofs.YteifneielgnniaaGreatDoor.Sh
open Go Go.Proofs
theorem rw_t {t : ByteArray} (h : rwOk t = true) : okA t = true ∧ gdTo t (nl t) = true ∧ wOk t = true := by
  unfold rwOk at h
  simp only [Bool.and_eq_true] at h
  exact ⟨h.1.1, h.1.2, h.2⟩
theorem nums_at' {t : ByteArray} {i : Nat} (h : i < (wds 32 t).length) : (numsOf t).getD i 0 = n3 t i := by
  unfold numsOf n3 wAt
  simp [List.getD, List.getElem?_map, List.getElem?_eq_getElem h]
theorem nums_n3 {t : ByteArray} {i : Nat} (h : i < (wds 32 t).length) : (numsOf t).getD i 0 = n3 t i := nums_at' h
theorem fn8 : FnOk Tryz.prog 8 Tryz.f8 (bodyOf Tryz.f8) := ⟨Tryz.func8, rfl, by rfl⟩
end Go.Proofs.YteifneielgnniaaGreatDoor.Sh
end
