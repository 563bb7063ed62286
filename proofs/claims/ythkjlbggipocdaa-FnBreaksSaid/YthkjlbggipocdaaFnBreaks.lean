/- FnBreaks: for every input the law returns true, and the input reads as it did. No condition. -/
import Derived.Test.YthkjlbggipocdaaRows
import Derived.Test.YthkjlbggipocdaaVz
import Derived.Test.YthkjlbggipocdaaVua
import Derived.Test.YthkjlbggipocdaaVub
import Derived.Test.YthkjlbggipocdaaVuc
import Derived.Test.YthkjlbggipocdaaVud
set_option linter.unusedVariables false
set_option linter.unusedSimpArgs false
set_option linter.unusedSectionVars false
namespace Go.Proofs.Ythkjlbggipocdaa.Sh
open Go Go.Proofs
def sLaw23 : Spec := orSpec (orSpec sLaw23a sLaw23b) (orSpec sLaw23c sLaw23d)
theorem ok23 : Ok Try.prog 23 sLaw23 := ok_or (ok_or ok23a ok23b) (ok_or ok23c ok23d)
end Go.Proofs.Ythkjlbggipocdaa.Sh
namespace Go.Proofs.Ythkjlbggipocdaa
open Go Go.Proofs.Ythkjlbggipocdaa.Sh Go.ChangeShapes Go.WideShapes Go.RowKit
theorem own : ownKnob Try.prog.godebug = none := by kernel_rfl
theorem laid : laidOutB Try.prog = true := by kernel_rfl
@[irreducible] noncomputable def fs57 : Array Field := match Try.prog.underlying 57 with | some (.struct fs) => fs | _ => #[]
theorem u57 : Try.prog.underlying 57 = some (.struct fs57) := by kernel_rfl
theorem ct57 : Try.prog.cellTypes Try.prog.depth 57 = some [24, 24, 24, 55] := by kernel_rfl
theorem n57 : Try.prog.cellsOf 57 = 4 := by kernel_rfl
theorem k24c : kCell Try.prog 24 = some (.f .f32) := by kernel_rfl
theorem u55 : Try.prog.underlying 55 = some (.slice 130) := by kernel_rfl
theorem fb57 : (match fs57[3]? with | some f => Nat.beq f.type 55 && Nat.beq f.offset 3 | none => false) = true := by kernel_rfl
theorem c55 : Try.prog.cellsOf 55 = 1 := by kernel_rfl
theorem kT130 : kT Try.prog 3 130 = some [.f .f32, .f .f32, .f .f32] := by kernel_rfl
theorem c130 : Try.prog.cellsOf 130 = 3 := by kernel_rfl
theorem holds_two {p q : Unit → Prop} (h : p ()) (k : q ()) : holds [p, q] := fun r hr => by
  rcases List.mem_cons.1 hr with rfl | hr
  · exact h
  · rw [List.mem_singleton] at hr; subst hr; exact k
theorem u22 : Try.prog.underlying 22 = some (.slice 5) := by kernel_rfl
theorem kT5 : kT Try.prog 1 5 = some [.i .u8] := by kernel_rfl
theorem c5 : Try.prog.cellsOf 5 = 1 := by kernel_rfl
theorem ls23 : LawSpec Rows.fnBreaksSpec Try.f23.params.size := by
  refine ⟨rfl, fun H ds h => ?_⟩
  rw [show Try.f23.params.size = 2 from rfl] at h
  match ds, h with
  | [_, _], _ => exact ⟨rfl, rfl, rfl⟩
set_option maxRecDepth 100000 in
theorem lift23 (os : Os) (started : os.Started) (H : Type) (enc : TypeId × Value → H) :
    ReturnsInHanded {} Try.checked os 23 .any (Rows.fnBreaksSpec.pre6 enc Try.prog Try.f23 Rows.fnBreaksRow.domain false) (Rows.fnBreaksSpec.post enc Try.prog Try.f23 false true false false) := by
  refine law_lifted (C := Try.checked) own started (by kernel_rfl) fn23 ls23 (tb := 4) rfl (by kernel_rfl) (by kernel_rfl) laid ok23
    (ChangeSpec.witness6 (enc := enc) (C := Try.checked) false ⟨#[], #[.slice none 0 0, .slice none 0 0], []⟩ 8 (by kernel_rfl) (by kernel_rfl) (by kernel_rfl) (by kernel_rfl)) ?_
  intro W base args ds p hval hA
  have hl := (trodAll_len hA).2
  rw [show Try.f23.params.toList = [22, 22] from rfl] at hl hval hA
  match args, hl with
  | [v0, v1], _ =>
    obtain ⟨d0, p0, t0⟩ := trodAll_at hA 0 (t := 22) (v := v0) rfl rfl
    obtain ⟨d1, p1, t1⟩ := trodAll_at hA 1 (t := 22) (v := v1) rfl rfl
    rcases ints_open u22 kT5 c5 (hval 0 22 v0 rfl rfl) t0 with rfl | ⟨loc0, L0, len0, hB0, hL0, hlen0, hw0, hs0⟩
    · rcases ints_open u22 kT5 c5 (hval 1 22 v1 rfl rfl) t1 with rfl | ⟨loc1, L1, len1, hB1, hL1, hlen1, hw1, hs1⟩
      · exact ⟨[.c .sn, .c .sn], [], _, _, fun _ => ⟨0, 0, 0, 0⟩, rfl,
          (fun q hq => by simp at hq), hrel_nil _ _ _, ⟨rfl, rfl, trivial⟩⟩
      · exact ⟨[.c .sn, .c (.sl 0 (.x fun _ => 0) (.x fun _ => len1))], [some ⟨false, 0, .it .u8 fun _ => L1⟩], _, _, fun _ => loc1, rfl,
          holds_mk ⟨rfl, hL1, hlen1, hw1⟩, hrel_ro1 hB1 rfl, ⟨rfl, hs1 (fun _ => loc1) 1 0 (.x fun _ => len1) (by decide) rfl rfl, trivial⟩⟩
    · rcases ints_open u22 kT5 c5 (hval 1 22 v1 rfl rfl) t1 with rfl | ⟨loc1, L1, len1, hB1, hL1, hlen1, hw1, hs1⟩
      · exact ⟨[.c (.sl 0 (.x fun _ => 0) (.x fun _ => len0)), .c .sn], [some ⟨false, 0, .it .u8 fun _ => L0⟩], _, _, fun _ => loc0, rfl,
          holds_mk ⟨rfl, hL0, hlen0, hw0⟩, hrel_ro1 hB0 rfl, ⟨hs0 (fun _ => loc0) 1 0 (.x fun _ => len0) (by decide) rfl rfl, rfl, trivial⟩⟩
      · exact ⟨[.c (.sl 0 (.x fun _ => 0) (.x fun _ => len0)), .c (.sl 1 (.x fun _ => 0) (.x fun _ => len1))], [some ⟨false, 0, .it .u8 fun _ => L0⟩, some ⟨false, 0, .it .u8 fun _ => L1⟩], _, _, (fun i => match i with | 0 => loc0 | _ => loc1), rfl,
          holds_two ⟨rfl, hL0, hlen0, hw0⟩ ⟨rfl, hL1, hlen1, hw1⟩, hrel_ro2 hB0 hB1 rfl rfl, ⟨hs0 ((fun i => match i with | 0 => loc0 | _ => loc1)) 2 0 (.x fun _ => len0) (by decide) rfl rfl, hs1 ((fun i => match i with | 0 => loc0 | _ => loc1)) 2 1 (.x fun _ => len1) (by decide) rfl rfl, trivial⟩⟩
theorem jf23 : joinedFacts Try.prog 23 Try.f23 Rows.fnBreaksSpec Rows.fnBreaksRow = true := by
  unfold joinedFacts
  exact andT (andT (andT (andT (andT (andT (andT (andT (andT (andT (andT (andT (andT (andT (andT (andT (andT (andT (andT (andT (andT (andT (andT (andT (andT (andT (andT (andT (andT (andT (andT (by kernel_rfl) (by kernel_rfl)) (by kernel_rfl)) (by kernel_rfl)) (by kernel_rfl)) (by kernel_rfl)) (by kernel_rfl)) (by kernel_rfl)) (by kernel_rfl)) (by kernel_rfl)) (by kernel_rfl)) (by kernel_rfl)) (by kernel_rfl)) (by kernel_rfl)) (by kernel_rfl)) (by kernel_rfl)) (by kernel_rfl)) (by kernel_rfl)) (by kernel_rfl)) (by kernel_rfl)) (by kernel_rfl)) (by kernel_rfl)) (by kernel_rfl)) (by kernel_rfl)) (by kernel_rfl)) ioE) (by rw [ioF]; kernel_rfl)) (by rw [ioM]; kernel_rfl)) (by kernel_rfl)) (by kernel_rfl)) (by kernel_rfl)) (by kernel_rfl)
theorem said23 : Rows.FnBreaksSaid :=
  OpenClaim.holds_of_wide 23 Try.f23 rfl rfl rfl rfl rfl rfl rfl ⟨rfl, rfl, rfl, rfl, rfl⟩ rfl rfl rfl rfl rfl (by kernel_rfl) Try.func23 jf23
    (of_decide_eq_true (by kernel_rfl)) (by unfold Func.isWrapper; rw [if_neg (by decide +kernel)]; exact ⟨rfl, rfl⟩)
    (fun os started H enc _ => lift23 os started H enc)
end Go.Proofs.Ythkjlbggipocdaa
