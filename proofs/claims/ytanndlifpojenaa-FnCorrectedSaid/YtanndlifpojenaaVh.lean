/- What what the law of corrections needs of this seat compute, each shown once. No condition. -/
import Derived.Test.YtanndlifpojenaaVg0
import Derived.Test.YtanndlifpojenaaVg1
import Derived.Test.YtanndlifpojenaaVg2
import Derived.Test.YtanndlifpojenaaVg3
import Derived.Test.YtanndlifpojenaaVg4
import Derived.Test.YtanndlifpojenaaVg5
import Derived.Test.YtanndlifpojenaaVg6
import Derived.Test.YtanndlifpojenaaVg7
set_option linter.unusedVariables false
set_option linter.unusedSimpArgs false
set_option linter.unusedSectionVars false
namespace Go.Proofs.Ytanndlifpojenaa.Sh
open Go Go.Proofs
section
theorem d_st_all : ∀ k, k < 32 → allR 801 (fun r => stepOk k r) = true
  | 0, _ => d_st0
  | 1, _ => d_st1
  | 2, _ => d_st2
  | 3, _ => d_st3
  | 4, _ => d_st4
  | 5, _ => d_st5
  | 6, _ => d_st6
  | 7, _ => d_st7
  | 8, _ => d_st8
  | 9, _ => d_st9
  | 10, _ => d_st10
  | 11, _ => d_st11
  | 12, _ => d_st12
  | 13, _ => d_st13
  | 14, _ => d_st14
  | 15, _ => d_st15
  | 16, _ => d_st16
  | 17, _ => d_st17
  | 18, _ => d_st18
  | 19, _ => d_st19
  | 20, _ => d_st20
  | 21, _ => d_st21
  | 22, _ => d_st22
  | 23, _ => d_st23
  | 24, _ => d_st24
  | 25, _ => d_st25
  | 26, _ => d_st26
  | 27, _ => d_st27
  | 28, _ => d_st28
  | 29, _ => d_st29
  | 30, _ => d_st30
  | 31, _ => d_st31
  | k + 32, h => absurd h (by omega)
theorem d_st (k r : Nat) (hk : k < 32) (hr : r < 801) : stepOk k r = true := allR_at (d_st_all k hk) hr
end
section
theorem d_share : allR 33 (fun r => isIn (fop .quo .f32 (floatOfInt .f32 (r : Int)) 1098907648) 0 1073741824) = true := by decide +kernel
theorem cut_9_5 : cutR 5 (cutR 9 (bodyOf Try.f3)) = cutR 15 (bodyOf Try.f3) := by rfl
theorem sameSh_self (l : List M) : sameSh l l = true := allI_all fun i _ => sameM_self _
theorem ne_ffI {a b : Int} (h : a = b) : (a != b) = false := by subst h; simp
theorem leq_gtr {a b : Nat} (h : fcmp .leq .f32 a b = true) : fcmp .gtr .f32 a b = false := by
  unfold fcmp at *
  cases ho : FloatKind.f32.format.order a b with
  | none => rfl
  | some o => rw [ho] at h; cases o <;> simp_all
theorem corr_len {c sh w : Nat} : ∀ {m n : Nat} {l : List M}, l.length = 16 → (corrK c sh w m n l).2.2.length = 16
  | 0, n, l, h => by unfold corrK; split; exact h; rfl
  | m + 1, n, l, h => by
    unfold corrK
    split
    · exact h
    · split
      · exact corr_len (by rw [nextS_len]; exact h)
      · rfl
end
section
theorem big_ok {n : Nat} (h : ltB 4096 (n : Int) = false) : n ≤ 4096 := by have := ltB_no.1 h; omega
theorem d_within : allR 200 (fun r => isIn (fop .quo .f32 (floatOfInt .f32 (r : Int)) 1098907648) 0 1166016512 && (nnD (Ieee.single.read (fop .quo .f32 (floatOfInt .f32 (r : Int)) 1098907648)) && fcmp .leq .f32 0 (fop .quo .f32 (floatOfInt .f32 (r : Int)) 1098907648))) = true := by decide +kernel
theorem d_one : isIn 1065353216 0 1073741824 = true := by decide +kernel
theorem eta_base : [((baseS.getD 0 (0, 0)).1, (baseS.getD 0 (0, 0)).2), ((baseS.getD 1 (0, 0)).1, (baseS.getD 1 (0, 0)).2), ((baseS.getD 2 (0, 0)).1, (baseS.getD 2 (0, 0)).2), ((baseS.getD 3 (0, 0)).1, (baseS.getD 3 (0, 0)).2), ((baseS.getD 4 (0, 0)).1, (baseS.getD 4 (0, 0)).2), ((baseS.getD 5 (0, 0)).1, (baseS.getD 5 (0, 0)).2), ((baseS.getD 6 (0, 0)).1, (baseS.getD 6 (0, 0)).2), ((baseS.getD 7 (0, 0)).1, (baseS.getD 7 (0, 0)).2), ((baseS.getD 8 (0, 0)).1, (baseS.getD 8 (0, 0)).2), ((baseS.getD 9 (0, 0)).1, (baseS.getD 9 (0, 0)).2), ((baseS.getD 10 (0, 0)).1, (baseS.getD 10 (0, 0)).2), ((baseS.getD 11 (0, 0)).1, (baseS.getD 11 (0, 0)).2), ((baseS.getD 12 (0, 0)).1, (baseS.getD 12 (0, 0)).2), ((baseS.getD 13 (0, 0)).1, (baseS.getD 13 (0, 0)).2), ((baseS.getD 14 (0, 0)).1, (baseS.getD 14 (0, 0)).2), ((baseS.getD 15 (0, 0)).1, (baseS.getD 15 (0, 0)).2)] = baseS := eta16 (l := baseS) rfl
theorem base_at {rc : Nat} (h : rc < 3) : baseS.getD (0 + (1 + rc) * 4) (0, 0) = cnr 0 ∧ baseS.getD (0 + (1 + rc) * 4 + 1) (0, 0) = cnr 1 ∧ baseS.getD (0 + (1 + rc) * 4 + 2) (0, 0) = cnr 2 ∧ baseS.getD (0 + (1 + rc) * 4 + 3) (0, 0) = cnr 3 := by
  have h3 : rc = 0 ∨ rc = 1 ∨ rc = 2 := by omega
  rcases h3 with rfl | rfl | rfl <;> exact ⟨rfl, rfl, rfl, rfl⟩
theorem moved_at {rc : Nat} (h : rc < 3) (m : M) : (movedS (1 + rc) m).getD 0 (0, 0) = cnr 0 ∧ (movedS (1 + rc) m).getD 1 (0, 0) = cnr 1 ∧ (movedS (1 + rc) m).getD 2 (0, 0) = cnr 2 ∧ (movedS (1 + rc) m).getD 3 (0, 0) = cnr 3 := by
  have h3 : rc = 0 ∨ rc = 1 ∨ rc = 2 := by omega
  rcases h3 with rfl | rfl | rfl <;> exact ⟨rfl, rfl, rfl, rfl⟩
theorem cnr_self : ∀ j, j < 4 → fcmp .eql .f32 (cnr j).1 (cnr j).1 = true ∧ fcmp .eql .f32 (cnr j).2 (cnr j).2 = true
  | 0, _ => by decide +kernel
  | 1, _ => by decide +kernel
  | 2, _ => by decide +kernel
  | 3, _ => by decide +kernel
end
end Go.Proofs.Ytanndlifpojenaa.Sh
