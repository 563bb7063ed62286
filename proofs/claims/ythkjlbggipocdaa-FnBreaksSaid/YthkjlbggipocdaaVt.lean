/- What what both great laws of webs need of this seat compute, each shown once. No condition. -/
import Derived.Test.YthkjlbggipocdaaVs
set_option linter.unusedVariables false
set_option linter.unusedSimpArgs false
set_option linter.unusedSectionVars false
namespace Go.Proofs.Ythkjlbggipocdaa.Sh
open Go Go.Proofs
theorem fn23 : FnOk Try.prog 23 Try.f23 (bodyOf Try.f23) := ⟨Try.func23, rfl, by rfl⟩
theorem big_ok {n : Nat} (h : ltB 4096 (n : Int) = false) : n ≤ 4096 := by have := ltB_no.1 h; omega
theorem break_code {st sp fd n s tm : Nat} {l : List Nat} (hw : webOk st sp fd l n = true) (hs : isPlain s = true) (ht : isTime tm = true) : (breakW st sp fd l n s tm 12).2.2 = 0 ∨ (breakW st sp fd l n s tm 12).2.2 = 6 ∨ (breakW st sp fd l n s tm 12).2.2 = 4 := by
  rw [break_go hw (by rw [hs, ht]; rfl)]
  exact fb_code
theorem ok_ok {n : Nat} {st sp fd : Nat} {l : List Nat} {tm : Nat} {k : Nat} (hw : webOk st sp fd (runW st sp fd tm n l k) n = true) (ht : isTime tm = true) (hn : webOk st sp fd (runW st sp fd tm n l (k + 1)) n = true) : (stepsC st sp fd (runW st sp fd tm n l k) n tm 1 == 0) = true := by
  rw [steps_0 hw ht rfl]
  · rfl
  · show (true && webOk st sp fd (stepW st sp fd tm (runW st sp fd tm n l k) n) n) = true
    exact hn
theorem ne_ff {a b : Int} (h : a = b) : (a != b) = false := by subst h; simp
theorem eq_tt {a b : Int} (h : a = b) : (a == b) = true := by subst h; simp
theorem nt {b : Bool} (h : b = true) : (!b) = false := by rw [h]; rfl
theorem eq_fn {a b : Nat} (h : a ≠ b) : ((a : Int) == (b : Int)) = false := by simp; omega
theorem eq_tn {a b : Nat} (h : a = b) : ((a : Int) == (b : Int)) = true := by subst h; simp
theorem natEq {a b : Nat} (h : ((a : Int) == (b : Int)) = true) : a = b := by simp at h; omega
theorem natNe {a b : Nat} (h : ((a : Int) == (b : Int)) = false) : a ≠ b := by simp at h; omega
theorem in3 {l : List Nat} {n i : Nat} (h : l.length = 3 * n) (hi : i < n) : i * 3 + 2 < l.length := by omega
theorem in3b {l : List Nat} {n i : Nat} (h : l.length = 3 * n) (hi : i < n) : 0 + i * 3 + 2 < l.length := by omega
theorem in3c {l : List Nat} {n i : Nat} (h : l.length = 3 * n) (hi : i < n) : 0 + ((i : Nat) : Int).toNat * 3 + 2 < l.length := by rw [Int.toNat_natCast]; omega
theorem nat_ne {f w : Nat} (h : f = w) : ((f : Int) != (w : Int)) = false := by subst h; simp
theorem kj_le {k j : Nat} (h : k ≤ j) : leB (k : Int) (j : Int) = true := by rw [leB_iff]; omega
theorem kj_no {j : Nat} : leB ((j + 1 : Nat) : Int) (j : Int) = false := by rw [leB_no]; omega
theorem kj_lt {k j : Nat} (h : k < j) : ltB (k : Int) (j : Int) = true := by rw [ltB_iff]; omega
theorem kj_nlt {k j : Nat} (h : ¬ k < j) : ltB (k : Int) (j : Int) = false := by rw [ltB_no]; omega
def E23 : Env := fun g => envGetL [(24, ⟨true, s24, none⟩), (25, ⟨true, s25, none⟩), (26, ⟨true, s26, none⟩), (36, ⟨true, (orSpec s36 s36n), none⟩), (73, ⟨true, s73, none⟩), (72, ⟨true, s72, none⟩), (75, ⟨true, sNo, some (s75T, s75F)⟩), (79, ⟨true, sNo, some (s79T, s79F)⟩), (74, ⟨true, sNo, some (s74T, s74F)⟩), (81, ⟨true, sNo, some (s81T, s81F)⟩), (80, ⟨true, sNo, some (s80T, s80F)⟩), (66, ⟨true, sNo, some (s66T, s66F)⟩), (65, ⟨true, sNo, some (s65T, s65F)⟩), (68, ⟨true, sNo, some (s68T, s68F)⟩), (67, ⟨true, sNo, some (s67T, s67F)⟩)] g
theorem E23ok : EnvOk Try.prog E23 := envOk_cons ok24 (envOk_cons ok25 (envOk_cons ok26 (envOk_cons ok36c (envOk_cons ok73 (envOk_cons ok72 (envOk_alt ok75T ok75F (envOk_alt ok79T ok79F (envOk_alt ok74T ok74F (envOk_alt ok81T ok81F (envOk_alt ok80T ok80F (envOk_alt ok66T ok66F (envOk_alt ok65T ok65F (envOk_alt ok68T ok68F (envOk_alt ok67T ok67F (envOk_nil _)))))))))))))))
end Go.Proofs.Ythkjlbggipocdaa.Sh
