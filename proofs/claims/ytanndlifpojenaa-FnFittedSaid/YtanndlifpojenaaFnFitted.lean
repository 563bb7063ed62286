/- FnFitted: for every input the law returns true, and the input reads as it did. No condition. -/
import Derived.Test.YtanndlifpojenaaRows
import Derived.Test.YtanndlifpojenaaVz
import Derived.Test.YtanndlifpojenaaVra
import Derived.Test.YtanndlifpojenaaVrb
import Derived.Test.YtanndlifpojenaaVrc
import Derived.Test.YtanndlifpojenaaVrd
set_option linter.unusedVariables false
set_option linter.unusedSimpArgs false
set_option linter.unusedSectionVars false
namespace Go.Proofs.Ytanndlifpojenaa.Sh
open Go Go.Proofs
/-- one contract or another -/
def orSpec (s1 s2 : Spec) : Spec := fun args H => match s1 args H with
  | some r => some r
  | none => s2 args H
theorem ok_or {P : Program} {g : Nat} {s1 s2 : Spec} (h1 : Ok P g s1) (h2 : Ok P g s2) : Ok P g (orSpec s1 s2) := by
  intro args H v H' o hs ho
  unfold orSpec at hs
  split at hs
  · rename_i r hr
    cases hs
    exact h1 args H v H' o hr ho
  · exact h2 args H v H' o hs ho
def sLaw4 : Spec := orSpec (orSpec sLaw4a sLaw4b) (orSpec sLaw4c sLaw4d)
theorem ok4 : Ok Try.prog 4 sLaw4 := ok_or (ok_or ok4a ok4b) (ok_or ok4c ok4d)
end Go.Proofs.Ytanndlifpojenaa.Sh
namespace Go.Proofs.Ytanndlifpojenaa
open Go Go.Proofs.Ytanndlifpojenaa.Sh Go.ChangeShapes Go.WideShapes Go.RowKit
theorem own : ownKnob Try.prog.godebug = none := by kernel_rfl
theorem laid : laidOutB Try.prog = true := by kernel_rfl
theorem holds_two {p q : Unit → Prop} (h : p ()) (k : q ()) : holds [p, q] := fun r hr => by
  rcases List.mem_cons.1 hr with rfl | hr
  · exact h
  · rw [List.mem_singleton] at hr; subst hr; exact k
theorem u22 : Try.prog.underlying 22 = some (.slice 5) := by kernel_rfl
theorem kT5 : kT Try.prog 1 5 = some [.i .u8] := by kernel_rfl
theorem c5 : Try.prog.cellsOf 5 = 1 := by kernel_rfl
theorem ls4 : LawSpec Rows.fnFittedSpec Try.f4.params.size := by
  refine ⟨rfl, fun H ds h => ?_⟩
  rw [show Try.f4.params.size = 2 from rfl] at h
  match ds, h with
  | [_, _], _ => exact ⟨rfl, rfl, rfl⟩
set_option maxRecDepth 100000 in
theorem lift4 (os : Os) (started : os.Started) (H : Type) (enc : TypeId × Value → H) :
    ReturnsInHanded {} Try.checked os 4 .any (Rows.fnFittedSpec.pre6 enc Try.prog Try.f4 Rows.fnFittedRow.domain false) (Rows.fnFittedSpec.post enc Try.prog Try.f4 false true false false) := by
  refine law_lifted (C := Try.checked) own started (by kernel_rfl) fn4 ls4 (tb := 4) rfl (by kernel_rfl) (by kernel_rfl) laid ok4
    (ChangeSpec.witness6 (enc := enc) (C := Try.checked) false ⟨#[], #[.slice none 0 0, .slice none 0 0], []⟩ 8 (by kernel_rfl) (by kernel_rfl) (by kernel_rfl) (by kernel_rfl)) ?_
  intro W base args ds p hval hA
  have hl := (trodAll_len hA).2
  rw [show Try.f4.params.toList = [22, 22] from rfl] at hl hval hA
  match args, hl with
  | [v0, v1], _ =>
    obtain ⟨d0, p0, t0⟩ := trodAll_at hA 0 (t := 22) (v := v0) rfl rfl
    obtain ⟨d1, p1, t1⟩ := trodAll_at hA 1 (t := 22) (v := v1) rfl rfl
    rcases ints_open u22 kT5 c5 (hval 0 22 v0 rfl rfl) t0 with rfl | ⟨loc0, L0, len0, hB0, hL0, hlen0, hw0, hs0⟩
    · rcases ints_open u22 kT5 c5 (hval 1 22 v1 rfl rfl) t1 with rfl | ⟨loc1, L1, len1, hB1, hL1, hlen1, hw1, hs1⟩
      · exact ⟨[.c .sn, .c .sn], [], _, _, fun _ => ⟨0, 0, 0, 0⟩, rfl,
          (fun q hq => by simp at hq), hrel_nil _ _ _, ⟨rfl, rfl, trivial⟩⟩
      · exact ⟨[.c .sn, .c (.sl 0 (.x fun _ => 0) (.x fun _ => len1))], [some ⟨false, 0, .it .u8 fun _ => L1⟩], _, _, fun _ => loc1, rfl,
          holds_mk ⟨rfl, hL1, hlen1, hw1⟩, hrel_ro1 hB1 rfl, ⟨rfl, hs1 (fun _ => loc1) 1 0 (.x fun _ => len1) (by decide) rfl rfl, trivial⟩⟩
    · rcases ints_open u22 kT5 c5 (hval 1 22 v1 rfl rfl) t1 with rfl | ⟨loc1, L1, len1, hB1, hL1, hlen1, hw1, hs1⟩
      · exact ⟨[.c (.sl 0 (.x fun _ => 0) (.x fun _ => len0)), .c .sn], [some ⟨false, 0, .it .u8 fun _ => L0⟩], _, _, fun _ => loc0, rfl,
          holds_mk ⟨rfl, hL0, hlen0, hw0⟩, hrel_ro1 hB0 rfl, ⟨hs0 (fun _ => loc0) 1 0 (.x fun _ => len0) (by decide) rfl rfl, rfl, trivial⟩⟩
      · exact ⟨[.c (.sl 0 (.x fun _ => 0) (.x fun _ => len0)), .c (.sl 1 (.x fun _ => 0) (.x fun _ => len1))], [some ⟨false, 0, .it .u8 fun _ => L0⟩, some ⟨false, 0, .it .u8 fun _ => L1⟩], _, _, (fun i => match i with | 0 => loc0 | _ => loc1), rfl,
          holds_two ⟨rfl, hL0, hlen0, hw0⟩ ⟨rfl, hL1, hlen1, hw1⟩, hrel_ro2 hB0 hB1 rfl rfl, ⟨hs0 ((fun i => match i with | 0 => loc0 | _ => loc1)) 2 0 (.x fun _ => len0) (by decide) rfl rfl, hs1 ((fun i => match i with | 0 => loc0 | _ => loc1)) 2 1 (.x fun _ => len1) (by decide) rfl rfl, trivial⟩⟩
theorem jf4 : joinedFacts Try.prog 4 Try.f4 Rows.fnFittedSpec Rows.fnFittedRow = true := by
  unfold joinedFacts
  exact andT (andT (andT (andT (andT (andT (andT (andT (andT (andT (andT (andT (andT (andT (andT (andT (andT (andT (andT (andT (andT (andT (andT (andT (andT (andT (andT (andT (andT (andT (andT (by kernel_rfl) (by kernel_rfl)) (by kernel_rfl)) (by kernel_rfl)) (by kernel_rfl)) (by kernel_rfl)) (by kernel_rfl)) (by kernel_rfl)) (by kernel_rfl)) (by kernel_rfl)) (by kernel_rfl)) (by kernel_rfl)) (by kernel_rfl)) (by kernel_rfl)) (by kernel_rfl)) (by kernel_rfl)) (by kernel_rfl)) (by kernel_rfl)) (by kernel_rfl)) (by kernel_rfl)) (by kernel_rfl)) (by kernel_rfl)) (by kernel_rfl)) (by kernel_rfl)) (by kernel_rfl)) ioE) (by rw [ioF]; kernel_rfl)) (by rw [ioM]; kernel_rfl)) (by kernel_rfl)) (by kernel_rfl)) (by kernel_rfl)) (by kernel_rfl)
theorem said4 : Rows.FnFittedSaid :=
  OpenClaim.holds_of_wide 4 Try.f4 rfl rfl rfl rfl rfl rfl rfl ⟨rfl, rfl, rfl, rfl, rfl⟩ rfl rfl rfl rfl rfl (by kernel_rfl) Try.func4 jf4
    (of_decide_eq_true (by kernel_rfl)) (by unfold Func.isWrapper; rw [if_neg (by decide +kernel)]; exact ⟨rfl, rfl⟩)
    (fun os started H enc _ => lift4 os started H enc)
end Go.Proofs.Ytanndlifpojenaa
