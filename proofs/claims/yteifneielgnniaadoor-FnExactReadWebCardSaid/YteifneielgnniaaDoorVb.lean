/- Texts of numbers, texts that are cut, numbers of base 16. No condition. -/
import Derived.Test.YteifneielgnniaaDoorVa
import Derived.Shelf.Strings.Repeat
import Derived.Lib.Agree
import Derived.Shelf.Strings.Split
import Derived.Lib.SplitLaws
import Derived.Shelf.Pu.Lays
import Derived.Shelf.Pu.Lower
import Derived.Shelf.Pu.ParseUintEmpty
import Derived.Shelf.Pu.ToError
import Derived.Shelf.Pu.ToErrorRange
import Derived.Lib.Strings
import Derived.Lib.Walk
import Derived.Lib.ConvBytes
import Derived.Lib.ParseIntBMem
import Derived.Lib.AtoiErrMem
import Derived.Lib.Hide
import Derived.Laws.Strings3
import Derived.Laws.Closers25
import Derived.Laws.Closers25b
import Derived.WalkKit
import Derived.BigCall
import Derived.BigGuard
set_option linter.unusedVariables false
set_option linter.unusedSimpArgs false
set_option linter.unusedSectionVars false
section
namespace Go.Proofs.YteifneielgnniaaDoor.Sh
open Go Go.Proofs Go.RowKit Go.Shelf
def Tryd.laysRepeat_ren : Go.Shelf.Ren := ⟨fun | 105 => 48 | 212 => 60 | 99 => 61 | 165 => 62 | 166 => 63 | 170 => 64 | 169 => 65 | 263 => 78 | 264 => 79 | 206 => 80 | 240 => 81 | 241 => 82 | 276 => 91 | 277 => 92 | n => n, fun | 9 => 9 | 3 => 3 | 4 => 4 | 20 => 20 | 0 => 0 | 46 => 88 | 109 => 93 | 5 => 5 | 72 => 98 | 76 => 100 | 51 => 67 | 146 => 115 | 53 => 71 | 148 => 117 | 70 => 96 | 37 => 89 | 75 => 73 | 127 => 119 | 164 => 133 | 80 => 103 | n => n, fun | n => n⟩
theorem Tryd.laysRepeat : Go.Proofs.Lays.n105 Tryd.prog Tryd.laysRepeat_ren := {
  mixed := by kernel_rfl
  f99 := Tryd.func61.trans (congrArg some (by kernel_rfl))
  f105 := Tryd.func48.trans (congrArg some (by kernel_rfl))
  f165 := Tryd.func62.trans (congrArg some (by kernel_rfl))
  f166 := Tryd.func63.trans (congrArg some (by kernel_rfl))
  f169 := Tryd.func65.trans (congrArg some (by kernel_rfl))
  f170 := Tryd.func64.trans (congrArg some (by kernel_rfl))
  f206 := Tryd.func80.trans (congrArg some (by kernel_rfl))
  f212 := Tryd.func60.trans (congrArg some (by kernel_rfl))
  f240 := Tryd.func81.trans (congrArg some (by kernel_rfl))
  f241 := Tryd.func82.trans (congrArg some (by kernel_rfl))
  f263 := Tryd.func78.trans (congrArg some (by kernel_rfl))
  f264 := Tryd.func79.trans (congrArg some (by kernel_rfl))
  f276 := Tryd.func91.trans (congrArg some (by kernel_rfl))
  f277 := Tryd.func92.trans (congrArg some (by kernel_rfl))
  t0 := Tryd.underlying0
  a0 := Tryd.isAgg0
  z0 := Tryd.sizeOf0
  v0 := Tryd.zeroValue0
  t3 := Tryd.underlying3
  a3 := Tryd.isAgg3
  z3 := Tryd.sizeOf3
  v3 := Tryd.zeroValue3
  t4 := Tryd.underlying4
  a4 := Tryd.isAgg4
  z4 := Tryd.sizeOf4
  v4 := Tryd.zeroValue4
  t5 := Tryd.underlying5
  a5 := Tryd.isAgg5
  z5 := Tryd.sizeOf5
  v5 := Tryd.zeroValue5
  t9 := Tryd.underlying9
  a9 := Tryd.isAgg9
  z9 := Tryd.sizeOf9
  v9 := Tryd.zeroValue9
  t20 := Tryd.underlying20
  a20 := Tryd.isAgg20
  z20 := Tryd.sizeOf20
  v20 := Tryd.zeroValue20
  t37 := Tryd.underlying89
  a37 := Tryd.isAgg89
  z37 := Tryd.sizeOf89
  v37 := Tryd.zeroValue89
  t46 := Tryd.underlying88
  a46 := Tryd.isAgg88
  z46 := Tryd.sizeOf88
  v46 := Tryd.zeroValue88
  t51 := Tryd.underlying67
  a51 := Tryd.isAgg67
  z51 := Tryd.sizeOf67
  v51 := Tryd.zeroValue67
  t53 := Tryd.underlying71
  a53 := Tryd.isAgg71
  z53 := Tryd.sizeOf71
  v53 := Tryd.zeroValue71
  t70 := Tryd.underlying96
  a70 := Tryd.isAgg96
  z70 := Tryd.sizeOf96
  v70 := Tryd.zeroValue96
  t72 := Tryd.underlying98
  a72 := Tryd.isAgg98
  z72 := Tryd.sizeOf98
  v72 := Tryd.zeroValue98
  t75 := Tryd.underlying73
  a75 := Tryd.isAgg73
  z75 := Tryd.sizeOf73
  v75 := Tryd.zeroValue73
  t76 := Tryd.underlying100
  a76 := Tryd.isAgg100
  z76 := Tryd.sizeOf100
  v76 := Tryd.zeroValue100
  t109 := Tryd.underlying93
  a109 := Tryd.isAgg93
  z109 := Tryd.sizeOf93
  v109 := Tryd.zeroValue93
  t127 := Tryd.underlying119
  a127 := Tryd.isAgg119
  z127 := Tryd.sizeOf119
  v127 := Tryd.zeroValue119
  t146 := Tryd.underlying115
  a146 := Tryd.isAgg115
  z146 := Tryd.sizeOf115
  v146 := Tryd.zeroValue115
  t148 := Tryd.underlying117
  a148 := Tryd.isAgg117
  z148 := Tryd.sizeOf117
  v148 := Tryd.zeroValue117
  t164 := Tryd.underlying133
  a164 := Tryd.isAgg133
  z164 := Tryd.sizeOf133
  v164 := Tryd.zeroValue133 }
theorem extra105 : Builder.Extra Tryd.prog Tryd.laysRepeat_ren := {
  sizeBuilder := by kernel_rfl
  liesBuilder := by kernel_rfl
  t5 := Tryd.laysRepeat.t5
  a5 := Tryd.laysRepeat.a5
  z5 := Tryd.laysRepeat.z5
  v5 := Tryd.laysRepeat.v5
  infoByte := by kernel_rfl
  cellsByte := by kernel_rfl
  sizeByte := by kernel_rfl
  neB5 := by decide }
theorem fRepeat : Tryd.laysRepeat_ren.f 105 = 48 := by kernel_rfl
theorem rep_calls (w : World) (m : Nat) (h : m ≤ 8) : Calls Tryd.prog 48 #[.string ({ data := #[48] } : ByteArray), .int .i64 (m : Int)] w fun e w' => e = .returned (.string (zerosT m)) ∧ Below w.heap.size w w' := by
  have h := Any.strings_Repeat Tryd.laysRepeat extra105 ⟨#[48]⟩ m w (by omega) (by show 1 * m ≤ _; omega)
  rw [fRepeat] at h
  refine h.mono fun e w' ⟨he, hw⟩ => ⟨?_, hw⟩
  rw [he]
  have e : Lib.repeatL (ByteArray.mk #[48]).data.toList m = List.replicate m 48 := by
    have := Lib.repeatL_replicate 48 1 m
    simpa using this
  rw [e]
  rfl
section
theorem fn48 : FnOk Tryd.prog 48 Tryd.f48 (bodyOf Tryd.f48) := ⟨Tryd.func48, rfl, by rfl⟩

theorem fr_of {w w' : World} (h : Below w.heap.size w w') : Fr nowhere w w' := ⟨h.os, h.tape, h.output, h.size, fun k hk _ => h.block k hk⟩
def s48 : Spec := fun args H => match args with
  | [.c (.s e), .c (.i .i64 c)] => some (.c (.s fun _ => zerosT c.val.toNat), H, [fun _ => e () = ({ data := #[48] } : ByteArray) ∧ 0 ≤ c.val ∧ c.val ≤ 8])
  | _ => none
theorem ok48 : Ok Tryd.prog 48 s48 := by
  intro args H v H' o hs ho μ W w vs hW hH hr
  unfold s48 at hs
  split at hs
  · rename_i e c
    cases hs
    match vs, hr with
    | [x, y], hr =>
      obtain ⟨hx, hy, _⟩ := hr
      obtain ⟨he, h0, h8⟩ := ho.one
      have hx : x = .string (e ()) := hx
      have hy : y = .int .i64 c.val := hy
      rw [he] at hx
      subst hx hy
      obtain ⟨m, hm⟩ : ∃ m : Nat, m = c.val.toNat := ⟨_, rfl⟩
      have hc : c.val = (m : Int) := by omega
      have hz : zerosT c.val.toNat = zerosT m := by rw [hm]
      have k := rep_calls w m (by omega)
      rw [← hc] at k
      exact .inl ⟨callFunc_run fn48 _ _, k.mono fun e' w' ⟨h1, h2⟩ => ⟨_, h1, μ, agree.refl _ _, Nat.le_refl _, hH.quiet (fr_of h2), by rw [hz]; rfl, (fr_of h2).mono fun _ _ h => h.elim⟩⟩
  · cases hs
end
section
theorem nanT : ({ data := #[55, 102, 99, 48, 48, 48, 48, 48] } : ByteArray) = hexT 2143289344 := by decide +kernel
attribute [local irreducible] hexT hexM zerosT
theorem fn40 : FnOk Tryd.prog 40 Tryd.f40 (bodyOf Tryd.f40) := ⟨Tryd.func40, rfl, by rfl⟩
def s40 : Spec := hspec fun args H => match args, H with
  | [.c (.f .f32 a)], [] => some (.c (.s fun _ => numT (a ())), [], [fun _ => a () < 4294967296])
  | _, _ => none
def E40 : Env := fun g => envGetL [(47, ⟨true, s47, none⟩), (41, ⟨true, s41, none⟩), (48, ⟨true, s48, none⟩)] g
theorem E40ok : EnvOk Tryd.prog E40 := envOk_cons ok47 (envOk_cons ok41 (envOk_cons ok48 (envOk_nil _)))
set_option maxRecDepth 100000 in
set_option maxHeartbeats 2000000 in
theorem ok40 : Ok Tryd.prog 40 (s40) := ok_of_wpaH (E := E40) mixed tts E40ok fn40 fun args H v H' o hs ho => by
  split at hs
  · rename_i a
    cases hs
    have ha : a ⟨⟩ < 4294967296 := ho.one
    refine ⟨_, HLe.refl _, ?_⟩
    cbv
    rcases bool_ft (isNan (a ⟨⟩)) with h | h
    · have hbx := bits_f h
      have hw : IntKind.wrap .u64 ((a ⟨⟩ : Nat) : Int) = ((a ⟨⟩ : Nat) : Int) := wrapU64 (Int.natCast_nonneg _) (by omega)
      have hn := nd_8 ha
      have e1 : 0 ≤ IntKind.wrap .u64 ((a ⟨⟩ : Nat) : Int) ∧ IntKind.wrap .u64 ((a ⟨⟩ : Nat) : Int) < 4294967296 := by rw [hw]; exact ⟨Int.natCast_nonneg _, by omega⟩
      have hm : hexM (IntKind.wrap .u64 ((a ⟨⟩ : Nat) : Int)).toNat = hexM (a ⟨⟩) := by rw [hw]; rfl
      have hc : IntKind.wrap .i64 (8 - (((hexM (IntKind.wrap .u64 ((a ⟨⟩ : Nat) : Int)).toNat).size : Nat) : Int)) = ((8 - nd (a ⟨⟩) : Nat) : Int) := by
        rw [hm, hexM_size, wrap64 (by omega) (by omega)]; omega
      have e2 : ({ data := #[48] } : ByteArray) = ({ data := #[48] } : ByteArray) ∧ 0 ≤ IntKind.wrap .i64 (8 - (((hexM (IntKind.wrap .u64 ((a ⟨⟩ : Nat) : Int)).toNat).size : Nat) : Int)) ∧ IntKind.wrap .i64 (8 - (((hexM (IntKind.wrap .u64 ((a ⟨⟩ : Nat) : Int)).toNat).size : Nat) : Int)) ≤ 8 := by
        rw [hc]; exact ⟨rfl, Int.natCast_nonneg _, by omega⟩
      have e3 : zerosT (IntKind.wrap .i64 (8 - (((hexM (IntKind.wrap .u64 ((a ⟨⟩ : Nat) : Int)).toNat).size : Nat) : Int))).toNat ++ hexM (IntKind.wrap .u64 ((a ⟨⟩ : Nat) : Int)).toNat = numT (a ⟨⟩) := by
        rw [hc, hm, Int.toNat_natCast, pad ha]; show _ = hexT (bitsX (a ⟨⟩)); rw [hbx]
      have e4 : (zerosT (IntKind.wrap .i64 (8 - (((hexM (IntKind.wrap .u64 ((a ⟨⟩ : Nat) : Int)).toNat).size : Nat) : Int))).toNat).size + (hexM (IntKind.wrap .u64 ((a ⟨⟩ : Nat) : Int)).toNat).size ≤ 9223372036854775807 := by
        have := hexT_size (bitsX (a ⟨⟩))
        rw [← ByteArray.size_append, e3]; show (hexT (bitsX (a ⟨⟩))).size ≤ _; rw [this]; decide
      refine Br.f h ?_
      cbv
      repeat' (refine Ob.mk ?_ ?_; (focus (first | with_reducible rfl | exact h | exact ⟨rfl, e1⟩ | exact e2 | exact e4 | exact e3)); cbv)
    · have e1 : ({ data := #[55, 102, 99, 48, 48, 48, 48, 48] } : ByteArray) = numT (a ⟨⟩) := by rw [nanT]; show _ = hexT (bitsX (a ⟨⟩)); rw [bits_t h]
      refine Br.t h ?_
      cbv
      repeat' (refine Ob.mk ?_ ?_; (focus (first | exact e1)); cbv)
  · cases hs
end
end Go.Proofs.YteifneielgnniaaDoor.Sh
end
section
namespace Go.Proofs.YteifneielgnniaaDoor.Sh
open Go
/-! ## a text that is cut at each byte c -/
/-- the words of acc ++ l, where acc has no c -/
def splA (c : UInt8) : List UInt8 → List UInt8 → List (List UInt8)
  | acc, [] => [acc]
  | acc, b :: r => if b = c then acc :: splA c [] r else splA c (acc ++ [b]) r
def spl (c : UInt8) (l : List UInt8) : List (List UInt8) := splA c [] l
theorem splA_nil (c : UInt8) (acc : List UInt8) : splA c acc [] = [acc] := rfl
theorem splA_eq {b c : UInt8} (h : b = c) (acc r : List UInt8) : splA c acc (b :: r) = acc :: splA c [] r := if_pos h
theorem splA_ne {b c : UInt8} (h : ¬ b = c) (acc r : List UInt8) : splA c acc (b :: r) = splA c (acc ++ [b]) r := if_neg h
theorem splA_pos (c : UInt8) : ∀ (l acc : List UInt8), 1 ≤ (splA c acc l).length
  | [], acc => Nat.le_refl _
  | b :: r, acc => by
    by_cases h : b = c
    · rw [splA_eq h]; simp
    · rw [splA_ne h]; exact splA_pos c r _
theorem splA_le (c : UInt8) : ∀ (l acc : List UInt8), (splA c acc l).length ≤ l.length + 1
  | [], acc => Nat.le_refl _
  | b :: r, acc => by
    by_cases h : b = c
    · rw [splA_eq h]; have := splA_le c r []; simp; omega
    · rw [splA_ne h]; have := splA_le c r (acc ++ [b]); simp; omega
def sumL : List (List UInt8) → Nat
  | [] => 0
  | w :: ws => w.length + 1 + sumL ws
theorem splA_tot (c : UInt8) : ∀ (l acc : List UInt8), sumL (splA c acc l) = acc.length + l.length + 1
  | [], acc => by simp [splA_nil, sumL]
  | b :: r, acc => by
    by_cases h : b = c
    · rw [splA_eq h, sumL, splA_tot c r []]; simp; omega
    · rw [splA_ne h, splA_tot c r]; simp; omega
/-- words of 8 bytes each: their number -/
theorem sumL_all {k : Nat} : ∀ {ws : List (List UInt8)}, (∀ w ∈ ws, w.length = k) → sumL ws = (k + 1) * ws.length
  | [], _ => rfl
  | w :: ws, h => by
    rw [sumL, sumL_all fun x hx => h x (List.mem_cons_of_mem _ hx), h w (List.mem_cons_self ..), List.length_cons, Nat.mul_add]; omega
theorem spl_num {c : UInt8} {l : List UInt8} {k m : Nat} (h : ∀ w ∈ spl c l, w.length = k) (hl : l.length + 1 = (k + 1) * m) : (spl c l).length = m := by
  have h1 := splA_tot c l []
  have h2 := sumL_all h
  unfold spl at h2 ⊢
  rw [h1] at h2
  simp only [List.length_nil, Nat.zero_add] at h2
  rw [hl] at h2
  exact (Nat.eq_of_mul_eq_mul_left (Nat.succ_pos k) h2).symm
/-! the kit's words are these -/
theorem index_one (c : UInt8) : ∀ l : List UInt8, Lib.index l [c] = if c ∈ l then ((l.takeWhile (· != c)).length : Int) else -1
  | [] => by simp [Lib.index]
  | b :: r => by
    unfold Lib.index
    by_cases h : b = c
    · subst h; simp [List.isPrefixOf]
    · have h' : ¬ c = b := fun e => h e.symm
      have hp : List.isPrefixOf [c] (b :: r) = false := by simp [List.isPrefixOf, h']
      rw [hp, index_one c r]
      by_cases hm : c ∈ r
      · rw [if_pos hm, if_pos (List.mem_cons_of_mem _ hm)]
        have : ¬ (((r.takeWhile (· != c)).length : Int) == -1) = true := fun e => by have := beq_iff_eq.1 e; omega
        simp [h]
      · rw [if_neg hm]
        simp [h', hm]
theorem splA_miss (c : UInt8) : ∀ (l acc : List UInt8), ¬ c ∈ l → splA c acc l = [acc ++ l]
  | [], acc, _ => by simp [splA_nil]
  | b :: r, acc, h => by
    rw [splA_ne (fun e => h (by rw [e]; exact List.mem_cons_self ..)), splA_miss c r _ fun hm => h (List.mem_cons_of_mem _ hm)]
    simp
theorem splA_hit (c : UInt8) : ∀ (l acc : List UInt8), c ∈ l → splA c acc l = (acc ++ l.takeWhile (· != c)) :: splA c [] (l.drop ((l.takeWhile (· != c)).length + 1))
  | [], acc, h => by simp at h
  | b :: r, acc, h => by
    by_cases e : b = c
    · subst e; rw [splA_eq rfl]; simp
    · rw [splA_ne e, splA_hit c r _ (by rcases List.mem_cons.1 h with h | h; exact absurd h.symm e; exact h)]
      simp [e]
theorem splitK_spl (c : UInt8) : ∀ (n : Nat) (l : List UInt8), l.length < n → Lib.splitK [c] 0 (Lib.count l [c]) l = splA c [] l
  | 0, l, h => by omega
  | n + 1, l, h => by
    rw [Lib.count_one]
    by_cases hm : c ∈ l
    · have hsp : l = l.takeWhile (· != c) ++ c :: l.drop ((l.takeWhile (· != c)).length + 1) := by
        clear h
        induction l with
        | nil => simp at hm
        | cons b r ih =>
          by_cases e : b = c
          · subst e; simp
          · have hr : c ∈ r := by rcases List.mem_cons.1 hm with h | h; exact absurd h.symm e; exact h
            have := ih hr
            simp [e]; exact this
      have h0 : (l.takeWhile (· != c)).count c = 0 := by
        rw [List.count_eq_zero]
        intro hx
        have := List.all_takeWhile (l := l) (p := (· != c))
        rw [List.all_eq_true] at this
        have := this c hx
        simp at this
      have hcount : l.count c = (l.drop ((l.takeWhile (· != c)).length + 1)).count c + 1 := by
        rw [congrArg (List.count c) hsp]
        rw [List.count_append, h0, List.count_cons_self]
        simp
      rw [hcount, splA_hit c l [] hm]
      unfold Lib.splitK
      rw [index_one, if_pos hm]
      have hne : ¬ (((l.takeWhile (· != c)).length : Int) == -1) = true := fun e => by have := beq_iff_eq.1 e; omega
      rw [if_neg hne]
      have ht : l.take (l.takeWhile (· != c)).length = l.takeWhile (· != c) := by
        have h := congrArg (List.take (l.takeWhile (· != c)).length) hsp
        rw [h, List.take_append_of_le_length (Nat.le_refl _), List.take_length]
      have hd : (l.drop ((l.takeWhile (· != c)).length + 1)).length < n := by have := List.length_pos_of_mem hm; rw [List.length_drop]; omega
      rw [← splitK_spl c n _ hd, Lib.count_one]
      simp only [Int.toNat_natCast, Nat.add_zero, List.length_singleton, List.nil_append, ht]
    · rw [splA_miss c l [] hm, List.count_eq_zero.2 hm]
      rfl
/-- bytes as a text -/
def tx (l : List UInt8) : ByteArray := ⟨l.toArray⟩
theorem tx_list (l : List UInt8) : (tx l).data.toList = l := rfl
theorem tx_data (b : ByteArray) : tx b.data.toList = b := by cases b; simp [tx]
theorem splitB_spl (c : UInt8) (s : ByteArray) : Lib.splitB ⟨#[c]⟩ 0 (Lib.countB s ⟨#[c]⟩) s = (spl c s.data.toList).map tx := by
  have h := Lib.splitB_data ⟨#[c]⟩ 0 (Lib.countB s ⟨#[c]⟩) s
  have h2 : Lib.splitK [c] 0 (Lib.count s.data.toList [c]) s.data.toList = spl c s.data.toList := splitK_spl c _ _ (Nat.lt_succ_self _)
  have h3 : (Lib.splitB ⟨#[c]⟩ 0 (Lib.countB s ⟨#[c]⟩) s).map (·.data.toList) = spl c s.data.toList := h.trans h2
  rw [← h3, List.map_map]
  conv => lhs; rw [← List.map_id (Lib.splitB ⟨#[c]⟩ 0 (Lib.countB s ⟨#[c]⟩) s)]
  exact List.map_congr_left fun b _ => (tx_data b).symm
end Go.Proofs.YteifneielgnniaaDoor.Sh
end
section
namespace Go.Proofs.YteifneielgnniaaDoor.Sh
open Go Go.Proofs Go.Shelf Go.RowKit
variable {P : Program} {ρ : Ren}
/-! ## numbers of base 16 -/
/-- the value of a digit -/
def dg16 (c : Nat) : Option Nat := if 48 ≤ c ∧ c ≤ 57 then some (c - 48) else if 97 ≤ c ∧ c ≤ 102 then some (c - 87) else if 65 ≤ c ∧ c ≤ 70 then some (c - 55) else none
inductive R16 | ok (n : Nat) | no | big
/-- what the inner function hands back -/
def tupR (T : TypeId) : R16 → Value
  | .ok n => .tuple #[.int .u64 n, .nilIface]
  | .no => .tuple #[.int .u64 0, .iface T (.int .i64 2)]
  | .big => .tuple #[.int .u64 4294967295, .iface T (.int .i64 1)]
def p16 : Nat → List UInt8 → R16
  | acc, [] => .ok acc
  | acc, c :: r => match dg16 c.toNat with
    | none => .no
    | some d => if 4294967295 < acc * 16 + d then .big else p16 (acc * 16 + d) r
theorem low_tab : ∀ c, c < 256 → (97 ≤ bits .or .u8 (c : Nat) 32 ∧ bits .or .u8 (c : Nat) 32 ≤ 102 ↔ (97 ≤ c ∧ c ≤ 102) ∨ (65 ≤ c ∧ c ≤ 70)) ∧ (97 ≤ c → c ≤ 102 → bits .or .u8 (c : Nat) 32 = c) ∧ (65 ≤ c → c ≤ 70 → bits .or .u8 (c : Nat) 32 = (c : Int) + 32) := by decide +kernel
set_option maxHeartbeats 32000000 in
set_option maxRecDepth 100000 in
theorem pu16_in (L : LaysPu.n16 P ρ) (t : ByteArray) (hne : t.size ≠ 0) (hmax : t.size ≤ 9223372036854775806) (w : World) :
    Calls P (ρ.f 16) #[.string t, .int .i64 16, .int .i64 32] w fun e w' => e = .returned (tupR (ρ.t 34) (p16 0 t.data.toList)) ∧ w' = Lib.bytesWorld w (ρ.t 5) t := by
  have mixed := L.mixed
  have t9 := L.t9; have a9 := L.a9; have z9 := L.z9; have v9 := L.v9
  have t3 := L.t3; have a3 := L.a3; have z3 := L.z3; have v3 := L.v3
  have t22 := L.t22; have a22 := L.a22; have z22 := L.z22; have v22 := L.v22
  have t24 := L.t24; have a24 := L.a24; have z24 := L.z24; have v24 := L.v24
  have t4 := L.t4; have a4 := L.a4; have z4 := L.z4; have v4 := L.v4
  have t34 := L.t34; have a34 := L.a34; have z34 := L.z34; have v34 := L.v34
  have t5 := L.t5; have a5 := L.a5; have z5 := L.z5; have v5 := L.v5
  have t36 := L.t36; have a36 := L.a36; have z36 := L.z36; have v36 := L.v36
  have t37 := L.t37; have a37 := L.a37; have z37 := L.z37; have v37 := L.v37
  have t0 := L.t0; have a0 := L.a0; have z0 := L.z0; have v0 := L.v0
  have e19 : ∀ args w, (callFunc (ρ.f 19) args).run P w = .ok (.enter (ρ.f 19) args) w := enters_of L.f19 (by kernel_rfl) rfl
  have hemp : t.toList.isEmpty = false := by
    rw [← decide_eq_emptyBytes]
    exact decide_eq_false (fun h => hne (by rw [h]; rfl))
  have hcv := Lib.run_convert_string_bytes (P := P) w (ρ.t 9) (ρ.t 37) (ρ.t 5) t (u := .string) L.t9 L.t37 L.t5
  have hB : ∀ j, j < t.size → (Lib.bytesWorld w (ρ.t 5) t).cell? ⟨w.heap.size, j, none⟩ = some (.int .u8 (t.data.toList.getD j 0).toNat) := fun j hj => Lib.bytesWorld_cell w (ρ.t 5) t j hj
  obtain ⟨W1, hW1⟩ : ∃ W1, W1 = Lib.bytesWorld w (ρ.t 5) t := ⟨_, rfl⟩
  rw [← hW1] at hcv hB ⊢
  clear hW1
  obtain ⟨bs, hL⟩ : ∃ bs, bs = t.data.toList := ⟨_, rfl⟩
  have hLn : bs.length = t.size := by rw [hL, Lib.size_eq]
  rw [← hL] at hB ⊢
  clear hL
  have hmv : IntKind.u64.wrap (IntKind.u64.wrap 4294967296 - 1) = 4294967295 := by
    rw [IntKind.wrap_u64, IntKind.wrap_u64]
    decide
  go_enter L.f16, BodyPu.n16_ntmps ρ
  go_wp2
  go_loop [12, 13, 101] (fun vu vn vi => ∃ (k acc : Nat) (a : Int), vu = .bool false ∧ vn = .int .u64 a ∧ vi = .int .i64 k ∧ k ≤ t.size ∧ Hid (a = (acc : Int) ∧ acc ≤ 4294967295 ∧ p16 0 bs = p16 acc (bs.drop k)))
    (fun _ _ vi => t.size - (intOf vi).toNat)
  case atStart => exact ⟨0, 0, 0, rfl, rfl, rfl, by omega, rfl, by omega, rfl⟩
  case round =>
    obtain ⟨k, acc, a, rfl, rfl, rfl, hk, hh⟩ := hrel
    obtain ⟨ha, hacc, hdec⟩ := hh.out
    clear hh
    have a0 : 0 ≤ a := by omega
    have a1 : a ≤ 4294967295 := by omega
    by_cases hkn : k < t.size
    · have hc := hB k hkn
      have hdrop : bs.drop k = bs[k]'(by omega) :: bs.drop (k + 1) := List.drop_eq_getElem_cons (by omega)
      have hget : bs.getD k 0 = bs[k]'(by omega) := by simp [List.getD, List.getElem?_eq_getElem (show k < bs.length by omega)]
      rw [hdrop] at hdec
      rw [hget] at hc
      generalize bs[k]'(by omega) = c at hc hdec
      have hc256 : c.toNat < 256 := c.toNat_lt
      obtain ⟨lt1, lt2, lt3⟩ := low_tab c.toNat hc256
      clear hB hdrop hget
      by_cases hdig : 48 ≤ c.toNat ∧ c.toNat ≤ 57
      · obtain ⟨hd0, hd1⟩ := hdig
        have hg : dg16 c.toNat = some (c.toNat - 48) := by unfold dg16; rw [if_pos ⟨hd0, hd1⟩]
        have hcut : ¬ 1152921504606846976 ≤ acc := by omega
        clear lt1 lt2 lt3
        by_cases hov : 4294967295 < acc * 16 + (c.toNat - 48)
        · have hF : p16 acc (c :: bs.drop (k + 1)) = .big := by simp [p16, hg, hov]
          rw [hF] at hdec
          have iov : 4294967295 < a * 16 + ((c.toNat : Int) - 48) := by omega
          clear hcut hacc hF hov ha hg
          go_wp2
          go_ret2
          exact ⟨rfl, rfl⟩
        · have hF : p16 acc (c :: bs.drop (k + 1)) = p16 (acc * 16 + (c.toNat - 48)) (bs.drop (k + 1)) := by simp [p16, hg, hov]
          have HN : Hid (a * 16 + ((c.toNat : Int) - 48) = ((acc * 16 + (c.toNat - 48) : Nat) : Int) ∧ acc * 16 + (c.toNat - 48) ≤ 4294967295 ∧ p16 0 bs = p16 (acc * 16 + (c.toNat - 48)) (bs.drop (k + 1))) := Lib.hid ⟨by omega, by omega, hdec.trans hF⟩
          have iov : a * 16 + ((c.toNat : Int) - 48) ≤ 4294967295 := by omega
          clear hcut hacc hF hov hdec ha hg
          go_wp2
          refine ⟨⟨k + 1, acc * 16 + (c.toNat - 48), a * 16 + ((c.toNat : Int) - 48), rfl, (by first | rfl | (congr 1; omega)), (by first | rfl | (congr 1; omega)), by omega, HN⟩, by simp [intOf]; omega⟩
      · have hv0 := bits_lo_u8 .or (c.toNat : Int) 32
        have hv1 := bits_hi_u8 .or (c.toNat : Int) 32
        have hu0 := bits_lo_u8 .or 95 32
        have hu1 := bits_hi_u8 .or 95 32
        have hnd : ¬ (48 ≤ (c.toNat : Int) ∧ (c.toNat : Int) ≤ 57) := by omega
        by_cases hlet : (97 ≤ c.toNat ∧ c.toNat ≤ 102) ∨ (65 ≤ c.toNat ∧ c.toNat ≤ 70)
        · obtain ⟨l0, l1⟩ := lt1.2 hlet
          obtain ⟨d, hg, hd⟩ : ∃ d : Nat, dg16 c.toNat = some d ∧ (d : Int) = bits .or .u8 (c.toNat : Nat) 32 - 87 := by
            unfold dg16
            rw [if_neg hdig]
            rcases hlet with h | h
            · exact ⟨c.toNat - 87, by rw [if_pos h], by rw [lt2 h.1 h.2]; omega⟩
            · exact ⟨c.toNat - 55, by rw [if_neg (by omega), if_pos h], by rw [lt3 h.1 h.2]; omega⟩
          have hc95 : ¬ (c.toNat : Int) = 95 := by omega
          clear lt1 lt2 lt3 hlet hdig
          have hcut : ¬ 1152921504606846976 ≤ acc := by omega
          by_cases hov : 4294967295 < acc * 16 + d
          · have hF : p16 acc (c :: bs.drop (k + 1)) = .big := by simp [p16, hg, hov]
            rw [hF] at hdec
            have iov : 4294967295 < a * 16 + (bits .or .u8 (c.toNat : Int) 32 - 87) := by omega
            clear hcut hacc hF hov ha hg
            go_wp2_with (go_at_fn (ρ.f 19); refine (AnyPu.internal_strconv_lower { L with } _ _).mono ?_; rintro e w' ⟨rfl, rfl⟩)
            all_goals go_ret2
            all_goals first | exact ⟨rfl, rfl⟩ | exact ⟨by rw [hdec]; rfl, rfl⟩
          · have hF : p16 acc (c :: bs.drop (k + 1)) = p16 (acc * 16 + d) (bs.drop (k + 1)) := by simp [p16, hg, hov]
            have HN : Hid (a * 16 + (bits .or .u8 (c.toNat : Int) 32 - 87) = ((acc * 16 + d : Nat) : Int) ∧ acc * 16 + d ≤ 4294967295 ∧ p16 0 bs = p16 (acc * 16 + d) (bs.drop (k + 1))) := Lib.hid ⟨by omega, by omega, hdec.trans hF⟩
            have iov : a * 16 + (bits .or .u8 (c.toNat : Int) 32 - 87) ≤ 4294967295 := by omega
            clear hcut hacc hF hov hdec ha hg
            go_wp2_with (go_at_fn (ρ.f 19); refine (AnyPu.internal_strconv_lower { L with } _ _).mono ?_; rintro e w' ⟨rfl, rfl⟩)
            all_goals first | (refine ⟨⟨k + 1, acc * 16 + d, a * 16 + (bits .or .u8 (c.toNat : Int) 32 - 87), rfl, (by first | rfl | (congr 1; omega)), (by first | rfl | (congr 1; omega)), by omega, HN⟩, by simp [intOf]; omega⟩) | (exfalso; omega)
        · have hnl := fun h => hlet (lt1.1 h)
          have hg : dg16 c.toNat = none := by
            unfold dg16
            rw [if_neg hdig, if_neg (fun h => hlet (.inl h)), if_neg (fun h => hlet (.inr h))]
          have hF : p16 acc (c :: bs.drop (k + 1)) = .no := by simp [p16, hg]
          rw [hF] at hdec
          clear hacc hF ha lt1 lt2 lt3 hlet hg
          go_wp2_with (go_at_fn (ρ.f 19); refine (AnyPu.internal_strconv_lower { L with } _ _).mono ?_; rintro e w' ⟨rfl, rfl⟩)
          all_goals first | (exfalso; exact hnl ⟨by omega, by omega⟩) | (go_ret2; first | exact ⟨rfl, rfl⟩ | exact ⟨by rw [hdec]; rfl, rfl⟩)
    · have hkk : k = t.size := by omega
      subst hkk
      have hF : p16 acc (bs.drop t.size) = .ok acc := by rw [List.drop_eq_nil_of_le (by omega)]; rfl
      rw [hF] at hdec
      subst ha
      clear hacc hF a0 a1
      go_wp2
      go_ret2
      exact ⟨rfl, rfl⟩
end Go.Proofs.YteifneielgnniaaDoor.Sh
end
section
namespace Go.Proofs.YteifneielgnniaaDoor.Sh
open Go Go.Proofs Go.Shelf Go.RowKit
variable {P : Program} {ρ : Ren}
/-- what a text of base 16 is: none at the empty one -/
def q16 (l : List UInt8) : R16 := if l = [] then .no else p16 0 l
theorem pu16_any (L : LaysPu.n16 P ρ) (t : ByteArray) (hmax : t.size ≤ 9223372036854775806) (w : World) :
    Calls P (ρ.f 16) #[.string t, .int .i64 16, .int .i64 32] w fun e w' => e = .returned (tupR (ρ.t 34) (q16 t.data.toList)) ∧ Below w.heap.size w w' := by
  by_cases h0 : t.size = 0
  · have ht : t = ⟨#[]⟩ := by
      apply ByteArray.ext
      exact Array.eq_empty_of_size_eq_zero h0
    subst ht
    exact (AnyPu.internal_strconv_ParseUint_empty { L with } 16 32 w).mono fun e w' ⟨he, hw⟩ => ⟨he, by rw [hw]; exact Below.refl _ _⟩
  · have hne : t.data.toList ≠ [] := fun h => h0 (by rw [Lib.size_eq, h]; rfl)
    refine (pu16_in { L with } t h0 hmax w).mono fun e w' ⟨he, hw⟩ => ⟨?_, by rw [hw]; exact Lib.bytesWorld_below _ _ _⟩
    rw [he, q16, if_neg hne]
set_option maxHeartbeats 4000000 in
set_option maxRecDepth 100000 in
theorem pu16_pub (L : LaysPu.n14 P ρ) (s : ByteArray) (hlim : s.size ≤ 281474976710656) (ev er : Value) (w : World) (hv : w.cell? ⟨(ρ.g 0), 0, none⟩ = some ev) (hev : ev = .nilIface ∨ ∃ te pe, ev = .iface te pe)
    (hu : w.cell? ⟨(ρ.g 1), 0, none⟩ = some er) (her : er = .nilIface ∨ ∃ te pe, er = .iface te pe) :
    Calls P (ρ.f 14) #[.string s, .int .i64 16, .int .i64 32] w fun e w' => (∃ x y, e = .returned (.tuple #[.int .u64 x, y]) ∧ ((∃ n : Nat, q16 s.data.toList = .ok n ∧ x = n ∧ y = .nilIface) ∨ ((∀ n, q16 s.data.toList ≠ .ok n) ∧ ∃ T p, y = .iface T p))) ∧ Below w.heap.size w w' := by
  have mixed := L.mixed
  have t9 := L.t9; have a9 := L.a9; have z9 := L.z9; have v9 := L.v9
  have t3 := L.t3; have a3 := L.a3; have z3 := L.z3; have v3 := L.v3
  have t22 := L.t22; have a22 := L.a22; have z22 := L.z22; have v22 := L.v22
  have t24 := L.t24; have a24 := L.a24; have z24 := L.z24; have v24 := L.v24
  have t25 := L.t25; have a25 := L.a25; have z25 := L.z25; have v25 := L.v25
  have t4 := L.t4; have a4 := L.a4; have z4 := L.z4; have v4 := L.v4
  have e16 : ∀ args w, (callFunc (ρ.f 16) args).run P w = .ok (.enter (ρ.f 16) args) w := enters_of L.f16 (by kernel_rfl) rfl
  have e17 : ∀ args w, (callFunc (ρ.f 17) args).run P w = .ok (.enter (ρ.f 17) args) w := enters_of L.f17 (by kernel_rfl) rfl
  have hG : (ρ.g 0) < w.heap.size := Lib.lt_of_cell hv
  have hG1 : (ρ.g 1) < w.heap.size := Lib.lt_of_cell hu
  have hI := pu16_any { L with } s (by omega) w
  cases hq : q16 s.data.toList with
  | ok u =>
    rw [hq] at hI
    have hI : Calls P (ρ.f 16) #[.string s, .int .i64 16, .int .i64 32] w fun e w' => e = .returned (.tuple #[.int .u64 u, .nilIface]) ∧ Below w.heap.size w w' := hI
    clear hq
    go_enter L.f14, BodyPu.n14_ntmps ρ
    go_wp2_with (go_at_fn (ρ.f 16); refine hI.mono ?_; rintro e W1 ⟨rfl, hW⟩)
    go_wp2
    go_ret2
    exact ⟨⟨_, _, rfl, .inl ⟨u, rfl, rfl, rfl⟩⟩, hW⟩
  | no =>
    rw [hq] at hI
    have hI : Calls P (ρ.f 16) #[.string s, .int .i64 16, .int .i64 32] w fun e w' => e = .returned (.tuple #[.int .u64 0, .iface (ρ.t 34) (.int .i64 2)]) ∧ Below w.heap.size w w' := hI
    clear hq
    go_enter L.f14, BodyPu.n14_ntmps ρ
    go_wp2_with (go_at_fn (ρ.f 16); refine hI.mono ?_)
    rintro e W1 ⟨rfl, hb1⟩
    have hv1 : W1.cell? ⟨(ρ.g 0), 0, none⟩ = some ev := (hb1.cell (show (⟨(ρ.g 0), 0, none⟩ : Addr).block < w.heap.size from hG)).trans hv
    go_wp2_with (go_at_fn (ρ.f 17); refine (AnyPu.strconv_toError_syntax { L with } ⟨#[80, 97, 114, 115, 101, 85, 105, 110, 116]⟩ s 16 32 ev _ hlim ?_ hev).mono ?_)
    · exact hv1
    rintro e W2 ⟨N, rfl, h1, h2, h3⟩
    go_wp2
    go_ret2
    exact ⟨⟨_, _, rfl, .inr ⟨fun n h => (by cases h), _, _, rfl⟩⟩, hb1.trans (h3.mono hb1.size)⟩
  | big =>
    rw [hq] at hI
    have hI : Calls P (ρ.f 16) #[.string s, .int .i64 16, .int .i64 32] w fun e w' => e = .returned (.tuple #[.int .u64 4294967295, .iface (ρ.t 34) (.int .i64 1)]) ∧ Below w.heap.size w w' := hI
    clear hq
    go_enter L.f14, BodyPu.n14_ntmps ρ
    go_wp2_with (go_at_fn (ρ.f 16); refine hI.mono ?_)
    rintro e W1 ⟨rfl, hb1⟩
    have hv1 : W1.cell? ⟨(ρ.g 1), 0, none⟩ = some er := (hb1.cell (show (⟨(ρ.g 1), 0, none⟩ : Addr).block < w.heap.size from hG1)).trans hu
    go_wp2_with (go_at_fn (ρ.f 17); refine (AnyPu.strconv_toError_range { L with } ⟨#[80, 97, 114, 115, 101, 85, 105, 110, 116]⟩ s 16 32 er _ hlim ?_ her).mono ?_)
    · exact hv1
    rintro e W2 ⟨N, rfl, h1, h2, h3⟩
    go_wp2
    go_ret2
    exact ⟨⟨_, _, rfl, .inr ⟨fun n h => (by cases h), _, _, rfl⟩⟩, hb1.trans (h3.mono hb1.size)⟩
end Go.Proofs.YteifneielgnniaaDoor.Sh
end
section
namespace Go.Proofs.YteifneielgnniaaDoor.Sh
open Go Go.Proofs
/-! ## the number of a text of eight digits -/
def hx0 (c : UInt8) : Nat := if 48 ≤ c.toNat ∧ c.toNat ≤ 57 then c.toNat - 48 else c.toNat - 87
def hok (c : UInt8) : Bool := decide ((48 ≤ c.toNat ∧ c.toNat ≤ 57) ∨ (97 ≤ c.toNat ∧ c.toNat ≤ 102))
def pv : Nat → List UInt8 → Nat
  | acc, [] => acc
  | acc, c :: r => pv (acc * 16 + hx0 c) r
def rnOk (l : List UInt8) : Bool := l.length == 8 && l.all hok && bitsX (pv 0 l) == pv 0 l
def rn (l : List UInt8) : Nat := if rnOk l = true then pv 0 l else 0
def rnC (l : List UInt8) : Int := if rnOk l = true then 0 else 5
theorem hx0_lt {c : UInt8} (h : hok c = true) : hx0 c < 16 := by
  unfold hok at h; unfold hx0
  have := of_decide_eq_true h
  split <;> omega
theorem pv_ge : ∀ (l : List UInt8) (acc : Nat), acc ≤ pv acc l
  | [], acc => Nat.le_refl _
  | c :: r, acc => by
    have := pv_ge r (acc * 16 + hx0 c)
    unfold pv; omega
theorem pv_acc : ∀ (l : List UInt8) (acc : Nat), pv acc l = acc * 16 ^ l.length + pv 0 l
  | [], acc => by simp [pv]
  | c :: r, acc => by
    unfold pv
    rw [pv_acc r (acc * 16 + hx0 c), pv_acc r (0 * 16 + hx0 c), List.length_cons, Nat.pow_succ]
    simp only [Nat.zero_mul, Nat.zero_add, Nat.add_mul]
    rw [Nat.mul_assoc, Nat.mul_comm 16 (16 ^ r.length)]
    omega
theorem pv_lt : ∀ (l : List UInt8), l.all hok = true → pv 0 l < 16 ^ l.length
  | [], _ => by simp [pv]
  | c :: r, h => by
    simp only [List.all_cons, Bool.and_eq_true] at h
    unfold pv
    rw [pv_acc, List.length_cons, Nat.pow_succ]
    have h1 := hx0_lt h.1
    have h2 := pv_lt r h.2
    simp only [Nat.zero_mul, Nat.zero_add]
    have : hx0 c * 16 ^ r.length ≤ 15 * 16 ^ r.length := Nat.mul_le_mul_right _ (by omega)
    omega
theorem dg16_hok {c : UInt8} (h : hok c = true) : dg16 c.toNat = some (hx0 c) := by
  unfold hok at h
  have := of_decide_eq_true h
  unfold dg16 hx0
  by_cases h1 : 48 ≤ c.toNat ∧ c.toNat ≤ 57
  · rw [if_pos h1, if_pos h1]
  · rw [if_neg h1, if_neg h1, if_pos (by omega)]
theorem p16_ok : ∀ (l : List UInt8) (acc : Nat), l.all hok = true → pv acc l < 4294967296 → p16 acc l = .ok (pv acc l)
  | [], acc, _, _ => rfl
  | c :: r, acc, h, hl => by
    simp only [List.all_cons, Bool.and_eq_true] at h
    unfold p16
    rw [dg16_hok h.1]
    have h1 := pv_ge r (acc * 16 + hx0 c)
    have h2 : pv acc (c :: r) = pv (acc * 16 + hx0 c) r := rfl
    have h3 := p16_ok r (acc * 16 + hx0 c) h.2 (by omega)
    dsimp only
    rw [if_neg (by omega), h3, h2]
theorem hx_tab : ∀ d, d < 16 → hok (b8 (hxI d)) = true ∧ hx0 (b8 (hxI d)) = d := by decide
theorem hx_inv : ∀ n, n < 256 → hok (UInt8.ofNat n) = true → b8 (hxI (hx0 (UInt8.ofNat n))) = UInt8.ofNat n := by decide +kernel
theorem hx_inv' (c : UInt8) (h : hok c = true) : b8 (hxI (hx0 c)) = c := by
  have := hx_inv c.toNat c.toNat_lt (by simpa using h)
  simpa using this
theorem pv_dig (x : Nat) : ∀ (n acc : Nat), pv acc ((digL x n).map b8) = acc * 16 ^ n + x % 16 ^ n
  | 0, acc => by simp [digL, pv, Nat.mod_one]
  | n + 1, acc => by
    have h := hx_tab (sh x n % 16) (Nat.mod_lt _ (by decide))
    show pv (acc * 16 + hx0 (b8 (hxI (sh x n % 16)))) ((digL x n).map b8) = _
    rw [h.2, pv_dig x n, Nat.pow_succ, Nat.mod_mul]
    unfold sh
    rw [Nat.add_mul, Nat.mul_assoc, Nat.mul_comm 16 (16 ^ n), Nat.mul_comm (x / 16 ^ n % 16) (16 ^ n)]
    omega
theorem dig_hok (x : Nat) : ∀ n, ((digL x n).map b8).all hok = true
  | 0 => rfl
  | n + 1 => by
    show (b8 (hxI (sh x n % 16)) :: (digL x n).map b8).all hok = true
    rw [List.all_cons, dig_hok x n, (hx_tab (sh x n % 16) (Nat.mod_lt _ (by decide))).1]; rfl
theorem sh_mod (a y n j : Nat) (h : j < n) : sh (a * 16 ^ n + y) j % 16 = sh y j % 16 := by
  unfold sh
  have e : a * 16 ^ n = 16 ^ j * (16 * (a * 16 ^ (n - j - 1))) := by
    have : n = j + 1 + (n - j - 1) := by omega
    conv => lhs; rw [this, Nat.pow_add, Nat.pow_add, Nat.pow_one]
    generalize 16 ^ (n - j - 1) = u
    generalize 16 ^ j = v
    rw [Nat.mul_assoc v 16 u, ← Nat.mul_assoc a v, Nat.mul_comm a v, Nat.mul_assoc, ← Nat.mul_assoc a 16 u, Nat.mul_comm a 16, Nat.mul_assoc]
  rw [e, Nat.mul_add_div (Nat.pow_pos (by decide)), Nat.mul_add_mod]
theorem digL_mod (a y n : Nat) : ∀ m, m ≤ n → digL (a * 16 ^ n + y) m = digL y m
  | 0, _ => rfl
  | m + 1, h => by
    show hxI (sh (a * 16 ^ n + y) m % 16) :: digL (a * 16 ^ n + y) m = hxI (sh y m % 16) :: digL y m
    rw [sh_mod a y n m (by omega), digL_mod a y n m (by omega)]
theorem dig_pv : ∀ (l : List UInt8), l.all hok = true → (digL (pv 0 l) l.length).map b8 = l
  | [], _ => rfl
  | c :: r, h => by
    simp only [List.all_cons, Bool.and_eq_true] at h
    have e : pv 0 (c :: r) = hx0 c * 16 ^ r.length + pv 0 r := by
      show pv (0 * 16 + hx0 c) r = _
      rw [pv_acc]; simp
    have hl := pv_lt r h.2
    have hs : sh (pv 0 (c :: r)) r.length % 16 = hx0 c := by
      rw [e]; unfold sh
      rw [Nat.mul_comm, Nat.mul_add_div (Nat.pow_pos (by decide)), Nat.div_eq_of_lt hl]
      simpa using Nat.mod_eq_of_lt (hx0_lt h.1)
    show b8 (hxI (sh (pv 0 (c :: r)) r.length % 16)) :: (digL (pv 0 (c :: r)) r.length).map b8 = c :: r
    rw [hs, hx_inv' c h.1, e, digL_mod _ _ _ _ (Nat.le_refl _), dig_pv r h.2]
theorem bytesT_list (l : List Int) : (bytesT l).data.toList = l.map b8 := by rw [bytesT_eq]
theorem hexT_list (x : Nat) : (hexT x).data.toList = (digL x 8).map b8 := by
  unfold hexT; rw [bytesT_list, hexTo_8]
theorem bitsX_bitsX (a : Nat) : bitsX (bitsX a) = bitsX a := by
  cases h : isNan a with
  | true => rw [bits_t h]; decide +kernel
  | false => rw [bits_f h, bits_f h]
theorem nan_big {a : Nat} (h : 4294967296 ≤ a) : bitsX a < 4294967296 → isNan a = true := by
  intro h'
  cases e : isNan a with
  | true => rfl
  | false => rw [bits_f e] at h'; omega
/-- the program's reading is the reference's -/
theorem rnI_iff (t : ByteArray) : (∃ n, p16 0 t.data.toList = .ok n ∧ n < 4294967296 ∧ numT n = t) → rnOk t.data.toList = true := by
  rintro ⟨n, hn, hlt, ht⟩
  have hb : bitsX n < 4294967296 := bitsX_lt hlt
  have hl : t.data.toList = (digL (bitsX n) 8).map b8 := by
    rw [← ht]; exact hexT_list _
  have hall : t.data.toList.all hok = true := by rw [hl]; exact dig_hok _ _
  have hpv : pv 0 t.data.toList = bitsX n := by
    rw [hl, pv_dig]
    have : (16 : Nat) ^ 8 = 4294967296 := by decide
    rw [this, Nat.mod_eq_of_lt hb]; simp
  have hlen : t.data.toList.length = 8 := by
    rw [hl, List.length_map]; rfl
  unfold rnOk
  rw [hall, hpv, bitsX_bitsX, hlen]
  simp
theorem rnOk_p16 {t : ByteArray} (h : rnOk t.data.toList = true) : p16 0 t.data.toList = .ok (pv 0 t.data.toList) ∧ pv 0 t.data.toList < 4294967296 ∧ numT (pv 0 t.data.toList) = t ∧ t.data.toList.length = 8 := by
  unfold rnOk at h
  simp only [Bool.and_eq_true, beq_iff_eq] at h
  obtain ⟨⟨h8, hall⟩, hb⟩ := h
  have hlt := pv_lt _ hall
  rw [h8] at hlt
  have hlt : pv 0 t.data.toList < 4294967296 := hlt
  refine ⟨p16_ok _ _ hall hlt, hlt, ?_, h8⟩
  show hexT (bitsX (pv 0 t.data.toList)) = t
  rw [hb]
  have e : (hexT (pv 0 t.data.toList)).data.toList = t.data.toList := by
    rw [hexT_list, ← h8, dig_pv _ hall]
  rw [← tx_data (hexT (pv 0 t.data.toList)), e, tx_data]
theorem p16_lt : ∀ (l : List UInt8) (acc n : Nat), acc < 4294967296 → p16 acc l = .ok n → n < 4294967296
  | [], acc, n, h, e => by simp only [p16] at e; cases e; exact h
  | c :: r, acc, n, h, e => by
    unfold p16 at e
    split at e
    · cases e
    · split at e
      · cases e
      · exact p16_lt r _ n (by omega) e
theorem rn_lt (l : List UInt8) : rn l < 4294967296 := by
  unfold rn
  split
  · rename_i h
    have := (rnOk_p16 (t := tx l) h).2.1
    exact this
  · decide
end Go.Proofs.YteifneielgnniaaDoor.Sh
end
section
namespace Go.Proofs.YteifneielgnniaaDoor.Sh
open Go Go.Proofs Go.RowKit Go.Shelf
def Tryd.laysPu_ren : Go.Shelf.Ren := ⟨fun | 14 => 39 | 16 => 45 | 17 => 46 | 19 => 53 | 20 => 54 | 21 => 55 | 22 => 56 | 23 => 57 | 24 => 58 | 25 => 71 | 27 => 73 | 26 => 72 | 28 => 85 | 29 => 93 | 30 => 74 | 31 => 75 | 32 => 76 | 33 => 77 | 35 => 87 | 34 => 86 | 36 => 88 | 37 => 89 | 38 => 90 | 39 => 94 | 40 => 95 | n => n, fun | 9 => 9 | 3 => 3 | 22 => 71 | 24 => 73 | 25 => 74 | 4 => 4 | 34 => 86 | 5 => 5 | 36 => 88 | 37 => 89 | 0 => 0 | 39 => 90 | 21 => 21 | 44 => 107 | 47 => 119 | 50 => 127 | 48 => 125 | 2 => 2 | 52 => 110 | 55 => 113 | 59 => 129 | 60 => 67 | 20 => 20 | 61 => 130 | 65 => 138 | 66 => 139 | 67 => 103 | n => n, fun | 0 => 2 | 1 => 3 | 2 => 6 | 3 => 7 | 4 => 8 | n => n⟩
theorem Tryd.laysPu : Go.Proofs.LaysPu.n14 Tryd.prog Tryd.laysPu_ren := {
  mixed := by kernel_rfl
  f14 := Tryd.func39.trans (congrArg some (by kernel_rfl))
  f16 := Tryd.func45.trans (congrArg some (by kernel_rfl))
  f17 := Tryd.func46.trans (congrArg some (by kernel_rfl))
  f19 := Tryd.func53.trans (congrArg some (by kernel_rfl))
  f20 := Tryd.func54.trans (congrArg some (by kernel_rfl))
  f21 := Tryd.func55.trans (congrArg some (by kernel_rfl))
  f22 := Tryd.func56.trans (congrArg some (by kernel_rfl))
  f23 := Tryd.func57.trans (congrArg some (by kernel_rfl))
  f24 := Tryd.func58.trans (congrArg some (by kernel_rfl))
  f25 := Tryd.func71.trans (congrArg some (by kernel_rfl))
  f26 := Tryd.func72.trans (congrArg some (by kernel_rfl))
  f27 := Tryd.func73.trans (congrArg some (by kernel_rfl))
  f28 := Tryd.func85.trans (congrArg some (by kernel_rfl))
  f29 := Tryd.func93.trans (congrArg some (by kernel_rfl))
  f30 := Tryd.func74.trans (congrArg some (by kernel_rfl))
  f31 := Tryd.func75.trans (congrArg some (by kernel_rfl))
  f32 := Tryd.func76.trans (congrArg some (by kernel_rfl))
  f33 := Tryd.func77.trans (congrArg some (by kernel_rfl))
  f34 := Tryd.func86.trans (congrArg some (by kernel_rfl))
  f35 := Tryd.func87.trans (congrArg some (by kernel_rfl))
  f36 := Tryd.func88.trans (congrArg some (by kernel_rfl))
  f37 := Tryd.func89.trans (congrArg some (by kernel_rfl))
  f38 := Tryd.func90.trans (congrArg some (by kernel_rfl))
  f39 := Tryd.func94.trans (congrArg some (by kernel_rfl))
  f40 := Tryd.func95.trans (congrArg some (by kernel_rfl))
  t0 := Tryd.underlying0
  a0 := Tryd.isAgg0
  z0 := Tryd.sizeOf0
  v0 := Tryd.zeroValue0
  i0 := by kernel_rfl
  t2 := Tryd.underlying2
  a2 := Tryd.isAgg2
  z2 := Tryd.sizeOf2
  v2 := Tryd.zeroValue2
  i2 := by kernel_rfl
  t3 := Tryd.underlying3
  a3 := Tryd.isAgg3
  z3 := Tryd.sizeOf3
  v3 := Tryd.zeroValue3
  i3 := by kernel_rfl
  t4 := Tryd.underlying4
  a4 := Tryd.isAgg4
  z4 := Tryd.sizeOf4
  v4 := Tryd.zeroValue4
  i4 := by kernel_rfl
  t5 := Tryd.underlying5
  a5 := Tryd.isAgg5
  z5 := Tryd.sizeOf5
  v5 := Tryd.zeroValue5
  i5 := by kernel_rfl
  t9 := Tryd.underlying9
  a9 := Tryd.isAgg9
  z9 := Tryd.sizeOf9
  v9 := Tryd.zeroValue9
  i9 := by kernel_rfl
  t20 := Tryd.underlying20
  a20 := Tryd.isAgg20
  z20 := Tryd.sizeOf20
  v20 := Tryd.zeroValue20
  i20 := by kernel_rfl
  t21 := Tryd.underlying21
  a21 := Tryd.isAgg21
  z21 := Tryd.sizeOf21
  v21 := Tryd.zeroValue21
  i21 := by kernel_rfl
  t22 := Tryd.underlying71
  a22 := Tryd.isAgg71
  z22 := Tryd.sizeOf71
  v22 := Tryd.zeroValue71
  i22 := by kernel_rfl
  t24 := Tryd.underlying73
  a24 := Tryd.isAgg73
  z24 := Tryd.sizeOf73
  v24 := Tryd.zeroValue73
  i24 := by kernel_rfl
  t25 := Tryd.underlying74
  a25 := Tryd.isAgg74
  z25 := Tryd.sizeOf74
  v25 := Tryd.zeroValue74
  i25 := by kernel_rfl
  t34 := Tryd.underlying86
  a34 := Tryd.isAgg86
  z34 := Tryd.sizeOf86
  v34 := Tryd.zeroValue86
  i34 := by kernel_rfl
  c34 := by kernel_rfl
  t36 := Tryd.underlying88
  a36 := Tryd.isAgg88
  z36 := Tryd.sizeOf88
  v36 := Tryd.zeroValue88
  i36 := by kernel_rfl
  t37 := Tryd.underlying89
  a37 := Tryd.isAgg89
  z37 := Tryd.sizeOf89
  v37 := Tryd.zeroValue89
  i37 := by kernel_rfl
  t39 := Tryd.underlying90
  a39 := Tryd.isAgg90
  z39 := Tryd.sizeOf90
  v39 := Tryd.zeroValue90
  i39 := by kernel_rfl
  t44 := Tryd.underlying107
  a44 := Tryd.isAgg107
  z44 := Tryd.sizeOf107
  v44 := Tryd.zeroValue107
  i44 := by kernel_rfl
  t47 := Tryd.underlying119
  a47 := Tryd.isAgg119
  z47 := Tryd.sizeOf119
  v47 := Tryd.zeroValue119
  i47 := by kernel_rfl
  t48 := Tryd.underlying125
  a48 := Tryd.isAgg125
  z48 := Tryd.sizeOf125
  v48 := Tryd.zeroValue125
  i48 := by kernel_rfl
  t50 := Tryd.underlying127
  a50 := Tryd.isAgg127
  z50 := Tryd.sizeOf127
  v50 := Tryd.zeroValue127
  i50 := by kernel_rfl
  t52 := Tryd.underlying110
  a52 := Tryd.isAgg110
  z52 := Tryd.sizeOf110
  v52 := Tryd.zeroValue110
  i52 := by kernel_rfl
  t55 := Tryd.underlying113
  a55 := Tryd.isAgg113
  z55 := Tryd.sizeOf113
  v55 := Tryd.zeroValue113
  i55 := by kernel_rfl
  t59 := Tryd.underlying129
  a59 := Tryd.isAgg129
  z59 := Tryd.sizeOf129
  v59 := Tryd.zeroValue129
  i59 := by kernel_rfl
  t60 := Tryd.underlying67
  a60 := Tryd.isAgg67
  z60 := Tryd.sizeOf67
  v60 := Tryd.zeroValue67
  i60 := by kernel_rfl
  t61 := Tryd.underlying130
  a61 := Tryd.isAgg130
  z61 := Tryd.sizeOf130
  t65 := Tryd.underlying138
  a65 := Tryd.isAgg138
  z65 := Tryd.sizeOf138
  v65 := Tryd.zeroValue138
  i65 := by kernel_rfl
  t66 := Tryd.underlying139
  a66 := Tryd.isAgg139
  z66 := Tryd.sizeOf139
  v66 := Tryd.zeroValue139
  i66 := by kernel_rfl
  t67 := Tryd.underlying103
  a67 := Tryd.isAgg103
  z67 := Tryd.sizeOf103
  v67 := Tryd.zeroValue103
  i67 := by kernel_rfl
  g0 := by kernel_rfl
  m0 := by kernel_rfl
  g1 := by kernel_rfl
  m1 := by kernel_rfl
  g2 := by kernel_rfl
  m2 := by kernel_rfl
  g3 := by kernel_rfl
  m3 := by kernel_rfl
  g4 := by kernel_rfl
  m4 := by kernel_rfl }
def Tryd.laysSplit_ren : Go.Shelf.Ren := ⟨fun | 146 => 27 | 221 => 38 | 268 => 42 | 138 => 43 | 143 => 44 | 195 => 49 | 197 => 50 | 218 => 51 | 219 => 52 | 260 => 66 | 217 => 67 | 225 => 68 | 224 => 69 | 267 => 70 | 266 => 83 | 314 => 84 | n => n, fun | 9 => 9 | 31 => 37 | 3 => 3 | 4 => 4 | 0 => 0 | 105 => 83 | 21 => 21 | 5 => 5 | 46 => 88 | 119 => 120 | 139 => 123 | 138 => 122 | 146 => 115 | 51 => 67 | n => n, fun | 1 => 1 | 3 => 4 | 4 => 5 | n => n⟩
theorem Tryd.laysSplit : Go.Proofs.Lays.n146 Tryd.prog Tryd.laysSplit_ren := {
  mixed := by kernel_rfl
  f138 := Tryd.func43.trans (congrArg some (by kernel_rfl))
  f143 := Tryd.func44.trans (congrArg some (by kernel_rfl))
  f146 := Tryd.func27.trans (congrArg some (by kernel_rfl))
  f195 := Tryd.func49.trans (congrArg some (by kernel_rfl))
  f197 := Tryd.func50.trans (congrArg some (by kernel_rfl))
  f217 := Tryd.func67.trans (congrArg some (by kernel_rfl))
  f218 := Tryd.func51.trans (congrArg some (by kernel_rfl))
  f219 := Tryd.func52.trans (congrArg some (by kernel_rfl))
  f221 := Tryd.func38.trans (congrArg some (by kernel_rfl))
  f224 := Tryd.func69.trans (congrArg some (by kernel_rfl))
  f225 := Tryd.func68.trans (congrArg some (by kernel_rfl))
  f260 := Tryd.func66.trans (congrArg some (by kernel_rfl))
  f266 := Tryd.func83.trans (congrArg some (by kernel_rfl))
  f267 := Tryd.func70.trans (congrArg some (by kernel_rfl))
  f268 := Tryd.func42.trans (congrArg some (by kernel_rfl))
  f314 := Tryd.func84.trans (congrArg some (by kernel_rfl))
  t0 := Tryd.underlying0
  a0 := Tryd.isAgg0
  z0 := Tryd.sizeOf0
  v0 := Tryd.zeroValue0
  t3 := Tryd.underlying3
  a3 := Tryd.isAgg3
  z3 := Tryd.sizeOf3
  v3 := Tryd.zeroValue3
  t4 := Tryd.underlying4
  a4 := Tryd.isAgg4
  z4 := Tryd.sizeOf4
  v4 := Tryd.zeroValue4
  t5 := Tryd.underlying5
  a5 := Tryd.isAgg5
  z5 := Tryd.sizeOf5
  v5 := Tryd.zeroValue5
  t9 := Tryd.underlying9
  a9 := Tryd.isAgg9
  z9 := Tryd.sizeOf9
  v9 := Tryd.zeroValue9
  t21 := Tryd.underlying21
  a21 := Tryd.isAgg21
  z21 := Tryd.sizeOf21
  v21 := Tryd.zeroValue21
  t31 := Tryd.underlying37
  a31 := Tryd.isAgg37
  z31 := Tryd.sizeOf37
  v31 := Tryd.zeroValue37
  t46 := Tryd.underlying88
  a46 := Tryd.isAgg88
  z46 := Tryd.sizeOf88
  v46 := Tryd.zeroValue88
  t51 := Tryd.underlying67
  a51 := Tryd.isAgg67
  z51 := Tryd.sizeOf67
  v51 := Tryd.zeroValue67
  t105 := Tryd.underlying83
  a105 := Tryd.isAgg83
  z105 := Tryd.sizeOf83
  v105 := Tryd.zeroValue83
  t119 := Tryd.underlying120
  a119 := Tryd.isAgg120
  z119 := Tryd.sizeOf120
  t138 := Tryd.underlying122
  a138 := Tryd.isAgg122
  z138 := Tryd.sizeOf122
  v138 := Tryd.zeroValue122
  t139 := Tryd.underlying123
  a139 := Tryd.isAgg123
  z139 := Tryd.sizeOf123
  v139 := Tryd.zeroValue123
  t146 := Tryd.underlying115
  a146 := Tryd.isAgg115
  z146 := Tryd.sizeOf115
  v146 := Tryd.zeroValue115
  g1 := by kernel_rfl
  g3 := by kernel_rfl
  g4 := by kernel_rfl }
theorem fPu : Tryd.laysPu_ren.f 14 = 39 := by kernel_rfl
theorem gPu0 : Tryd.laysPu_ren.g 0 = 2 := by kernel_rfl
theorem gPu1 : Tryd.laysPu_ren.g 1 = 3 := by kernel_rfl
theorem fSplit : Tryd.laysSplit_ren.f 146 = 27 := by kernel_rfl
theorem gSplit : Tryd.laysSplit_ren.g 1 = 1 := by kernel_rfl
theorem pu_calls (s : ByteArray) (hlim : s.size ≤ 281474976710656) (W : Nat → Prop) (w : World) (hW : Wide W w) :
    Calls Tryd.prog 39 #[.string s, .int .i64 16, .int .i64 32] w fun e w' => (∃ x y, e = .returned (.tuple #[.int .u64 x, y]) ∧ ((∃ n : Nat, q16 s.data.toList = .ok n ∧ x = n ∧ y = .nilIface) ∨ ((∀ n, q16 s.data.toList ≠ .ok n) ∧ ∃ T p, y = .iface T p))) ∧ Below w.heap.size w w' := by
  obtain ⟨_, _, ev, hv, hev⟩ := hW.tab (2, 0, fun v => v = .nilIface ∨ ∃ t p, v = .iface t p) (by simp [tabCells])
  obtain ⟨_, _, er, hr, her⟩ := hW.tab (3, 0, fun v => v = .nilIface ∨ ∃ t p, v = .iface t p) (by simp [tabCells])
  have h := pu16_pub Tryd.laysPu s hlim ev er w (by rw [gPu0]; exact hv) hev (by rw [gPu1]; exact hr) her
  rw [fPu] at h
  exact h
def wds (c : UInt8) (b : ByteArray) : List (List UInt8) := spl c b.data.toList
theorem split_calls (s : ByteArray) (c : UInt8) (hs : s.size < 4294967281) (W : Nat → Prop) (w : World) (hW : Wide W w) :
    Calls Tryd.prog 27 #[.string s, .string ⟨#[c]⟩] w fun e w' =>
      e = .returned (.slice (some ⟨w.heap.size, 0, none⟩) (wds c s).length (wds c s).length) ∧ ∃ T, w' = w.alloc (.cells ((wds c s).map fun x => Value.string (tx x)).toArray T) := by
  obtain ⟨_, _, ev, hv, m, rfl⟩ := hW.tab (1, 0, fun v => ∃ m, v = .int .i64 m) (by simp [tabCells])
  have h := Any.strings_Split Tryd.laysSplit (by kernel_rfl) s ⟨#[c]⟩ m w hs (by rw [gSplit]; exact hv) (Nat.le_refl 1)
  rw [fSplit] at h
  have hl := Lib.splitB_all ⟨#[c]⟩ (Nat.le_refl 1) 0 _ s rfl
  rw [splitB_spl] at hl h
  rw [List.length_map] at hl
  refine h.mono fun e w' ⟨he, hw⟩ => ⟨?_, Tryd.laysSplit_ren.t 9, ?_⟩
  · rw [he]
    have : Lib.countB s ⟨#[c]⟩ + 1 = (wds c s).length := hl.symm
    rw [← this]
    try rfl
  · rw [hw, List.map_map]
    try rfl
/-! ## strings.Split -/
theorem fn27 : FnOk Tryd.prog 27 Tryd.f27 (bodyOf Tryd.f27) := ⟨Tryd.func27, rfl, by rfl⟩
def s27 (c : UInt8) : Spec := fun args H => match args with
  | [.c (.s t), .c (.s e)] => some (.c (.sl H.length (.l 0) (.x fun _ => (wds c (t ())).length)), H ++ [some ⟨true, 1, .sx fun _ => (wds c (t ())).map tx⟩], [fun _ => e () = (⟨#[c]⟩ : ByteArray) ∧ (t ()).size < 4294967281])
  | _ => none
theorem ok27 (c : UInt8) : Ok Tryd.prog 27 (s27 c) := by
  intro args H v H' o hs ho μ W w vs hW hH hr
  unfold s27 at hs
  split at hs
  · rename_i t e
    cases hs
    match vs, hr with
    | [x, y], hr =>
      obtain ⟨hx, hy, _⟩ := hr
      obtain ⟨he, hsz⟩ := ho.one
      have hx : x = .string (t ()) := hx
      have hy : y = .string (e ()) := hy
      rw [he] at hy
      subst hx hy
      have k := split_calls (t ()) c hsz W w hW
      refine .inl ⟨callFunc_run fn27 _ _, k.mono ?_⟩
      rintro e' w' ⟨rfl, T, rfl⟩
      have hp := hH.push (B := ⟨true, 1, .sx fun _ => (wds c (t ())).map tx⟩) (cells := ((wds c (t ())).map fun x => Value.string (tx x)).toArray) (e := T) (hW.new _ (Nat.le_refl _)) (fun ν ha j x hx => by
        obtain ⟨q, hq, rfl⟩ := Option.map_eq_some_iff.1 hx
        rw [List.getElem?_map, Option.map_eq_some_iff] at hq
        obtain ⟨u, hu, rfl⟩ := hq
        refine ⟨.string (tx u), ?_, rfl⟩
        simp [hu]) (wds c (t ())).length (by simp)
      refine ⟨_, rfl, _, agree_upd _ _ _, by simp, hp, ⟨by simp, (wds c (t ())).length, ⟨w.heap.size, 0, none⟩, Nat.le_refl _, ?_, .inr ?_, rfl⟩, (alloc_fr _).mono fun k hk h => h.elim⟩
      · rw [upd_self]; right; show 0 + (wds c (t ())).length * 1 ≤ (wds c (t ())).length; omega
      · rw [upd_self]; rfl
  · cases hs
end Go.Proofs.YteifneielgnniaaDoor.Sh
end
section
namespace Go.Proofs.YteifneielgnniaaDoor.Sh
open Go Go.Proofs Go.RowKit Go.Shelf
theorem calls_of_ok {P : Program} {g : Nat} {fn : Func} {c : Code} (hf : FnOk P g fn c) {args : Array Value} {w : World} {Q : Value → World → Prop} (h : OkRun P g args w Q) : Calls P g args w fun e w' => ∃ v, e = .returned v ∧ Q v w' := by
  rcases h with ⟨_, h⟩ | ⟨v, w', h, _⟩
  · exact h
  · have := callFunc_run hf args w
    rw [h] at this
    cases this
theorem e36a : Extern.findNext Tryd.f36 = none := by rfl
theorem e36b : Extern.find Tryd.f36 = some Extern.MathFloatBits.float32frombits := by rfl
theorem ext36 (b : Int) (w : World) : (callFunc 36 #[.int .u32 b]).run Tryd.prog w = .ok (.value (.float .f32 b.toNat)) w := by
  rw [run_callFunc_extern Tryd.func36 (by rfl) (by rfl) e36a e36b]; rfl
/-- the text of a number that is read -/
theorem nt_calls (n : Nat) (hn : n < 4294967296) (W : Nat → Prop) (w : World) (hW : Wide W w) :
    Calls Tryd.prog 40 #[.float .f32 n] w fun e w' => e = .returned (.string (numT n)) ∧ Fr W w w' := by
  have h := ok40 [.c (.f .f32 fun _ => n)] [] _ _ _ rfl (fun q hq => by simp at hq; subst hq; exact hn) (fun _ => ⟨0, 0, 0, 0⟩) W w [.float .f32 n] hW (hrel_nil _ _ _) ⟨⟨_, rfl, .inl rfl⟩, trivial⟩
  refine (calls_of_ok fn40 h).mono ?_
  rintro e w' ⟨v, rfl, ν, _, _, _, hv, hf⟩
  exact ⟨by rw [show v = .string (numT n) from hv], hf⟩
theorem u32_wrap {n : Nat} (h : n < 4294967296) : IntKind.u32.wrap (n : Int) = n := wrapU32 (Int.natCast_nonneg _) (by omega)
theorem q16_ok {l : List UInt8} {n : Nat} (h : q16 l = .ok n) : l ≠ [] ∧ p16 0 l = .ok n ∧ n < 4294967296 := by
  unfold q16 at h
  split at h
  · cases h
  · rename_i hne
    exact ⟨hne, h, p16_lt l 0 n (by decide) h⟩
set_option maxHeartbeats 4000000 in
set_option maxRecDepth 100000 in
theorem rn_calls (t : ByteArray) (hlim : t.size ≤ 281474976710656) (W : Nat → Prop) (w : World) (hW : Wide W w) :
    Calls Tryd.prog 28 #[.string t] w fun e w' => e = .returned (.tuple #[.float .f32 (rn t.data.toList), .int .i64 (rnC t.data.toList)]) ∧ Fr W w w' := by
  have e39 : ∀ args w, (callFunc 39 args).run Tryd.prog w = .ok (.enter 39 args) w := enters_of Tryd.func39 (by kernel_rfl) rfl
  have e40 : ∀ args w, (callFunc 40 args).run Tryd.prog w = .ok (.enter 40 args) w := enters_of Tryd.func40 (by kernel_rfl) rfl
  have e36 := ext36
  have hpu := pu_calls t hlim W w hW
  have hgo : ∀ w1, Below w.heap.size w w1 → Fr W w w1 ∧ Wide W w1 := fun w1 hb => by
    have hf : Fr W w w1 := ⟨hb.os, hb.tape, hb.output, hb.size, fun k hk _ => hb.block k hk⟩
    exact ⟨hf, hW.step hf⟩
  by_cases hq : ∃ n, q16 t.data.toList = .ok n
  · obtain ⟨n, hn⟩ := hq
    obtain ⟨hne, hp, hlt⟩ := q16_ok hn
    have hwr := u32_wrap hlt
    have hpu : Calls Tryd.prog 39 #[.string t, .int .i64 16, .int .i64 32] w fun e w' => e = .returned (.tuple #[.int .u64 n, .nilIface]) ∧ Below w.heap.size w w' := hpu.mono fun e w' ⟨⟨x, y, he, h⟩, hb⟩ => by
      rcases h with ⟨m, h1, h2, h3⟩ | ⟨h1, _⟩
      · rw [hn] at h1; cases h1; subst h2 h3; exact ⟨he, hb⟩
      · exact absurd hn (h1 n)
    have hnt := fun w1 hw1 => nt_calls n hlt W w1 hw1
    by_cases ht : numT n = t
    · have hok := rnI_iff t ⟨n, hp, hlt, ht⟩
      obtain ⟨p1, p2, p3, p4⟩ := rnOk_p16 hok
      have hnv : n = pv 0 t.data.toList := by rw [p1] at hp; cases hp; rfl
      have r1 : rn t.data.toList = n := by unfold rn; rw [if_pos hok, hnv]
      have r2 : rnC t.data.toList = 0 := by unfold rnC; rw [if_pos hok]
      rw [r1, r2]
      clear hok p1 p2 p3 p4 hnv r1 r2 hp hne hn
      go_enter Tryd.func28, Tryd.ntmps28
      go_wp2_with (go_at_fn 39; refine hpu.mono ?_)
      rintro e w1 ⟨rfl, hb⟩
      obtain ⟨hf, hw1⟩ := hgo w1 hb
      go_wp2_with (go_at_fn 40; refine (hnt _ hw1).mono ?_)
      rintro e w2 ⟨rfl, hf2⟩
      go_wp2
      go_ret2
      exact ⟨rfl, hf.trans hf2⟩
    · have hok : ¬ rnOk t.data.toList = true := fun h => by
        obtain ⟨p1, p2, p3, p4⟩ := rnOk_p16 h
        rw [p1] at hp; cases hp; exact ht p3
      have ht' : ((numT n).toList == t.toList) = false := by
        rw [Lib.toList_data, Lib.toList_data]
        refine beq_eq_false_iff_ne.2 fun e => ht ?_
        rw [← tx_data (numT n), e, tx_data]
      have r1 : rn t.data.toList = 0 := by unfold rn; rw [if_neg hok]
      have r2 : rnC t.data.toList = 5 := by unfold rnC; rw [if_neg hok]
      rw [r1, r2]
      clear hok r1 r2 hp hne hn
      go_enter Tryd.func28, Tryd.ntmps28
      go_wp2_with (go_at_fn 39; refine hpu.mono ?_)
      rintro e w1 ⟨rfl, hb⟩
      obtain ⟨hf, hw1⟩ := hgo w1 hb
      go_wp2_with (go_at_fn 40; refine (hnt _ hw1).mono ?_)
      rintro e w2 ⟨rfl, hf2⟩
      go_wp2
      go_ret2
      exact ⟨rfl, hf.trans hf2⟩
  · have hok : ¬ rnOk t.data.toList = true := fun h => by
      obtain ⟨p1, p2, p3, p4⟩ := rnOk_p16 h
      refine hq ⟨pv 0 t.data.toList, ?_⟩
      unfold q16
      rw [if_neg (fun e => by rw [e] at p4; cases p4), p1]
    have r1 : rn t.data.toList = 0 := by unfold rn; rw [if_neg hok]
    have r2 : rnC t.data.toList = 5 := by unfold rnC; rw [if_neg hok]
    rw [r1, r2]
    have hpu : Calls Tryd.prog 39 #[.string t, .int .i64 16, .int .i64 32] w fun e w' => (∃ x T p, e = .returned (.tuple #[.int .u64 x, .iface T p])) ∧ Below w.heap.size w w' := hpu.mono fun e w' ⟨⟨x, y, he, h⟩, hb⟩ => by
      rcases h with ⟨m, h1, _, _⟩ | ⟨_, T, p, hy⟩
      · exact absurd ⟨m, h1⟩ hq
      · subst hy; exact ⟨⟨x, T, p, he⟩, hb⟩
    clear hok r1 r2 hq
    go_enter Tryd.func28, Tryd.ntmps28
    go_wp2_with (go_at_fn 39; refine hpu.mono ?_)
    rintro e w1 ⟨⟨x, T, p, rfl⟩, hb⟩
    obtain ⟨hf, hw1⟩ := hgo w1 hb
    go_wp2
    go_ret2
    exact ⟨rfl, hf⟩
theorem fn28 : FnOk Tryd.prog 28 Tryd.f28 (bodyOf Tryd.f28) := ⟨Tryd.func28, rfl, by rfl⟩
def s28 : Spec := fun args H => match args with
  | [.c (.s t)] => some (.t [.c (.f .f32 fun _ => rn (t ()).data.toList), .c (.i .i64 (.x fun _ => rnC (t ()).data.toList))], H, [fun _ => (t ()).size ≤ 281474976710656])
  | _ => none
theorem ok28 : Ok Tryd.prog 28 s28 := by
  intro args H v H' o hs ho μ W w vs hW hH hr
  unfold s28 at hs
  split at hs
  · rename_i t
    cases hs
    match vs, hr with
    | [x], hr =>
      obtain ⟨hx, _⟩ := hr
      have hx : x = .string (t ()) := hx
      subst hx
      have k := rn_calls (t ()) ho.one (fun k => w.heap.size ≤ k) w (hW.sub (fun k hk => hW.new k hk) fun k hk => hk)
      refine .inl ⟨callFunc_run fn28 _ _, k.mono ?_⟩
      rintro e w' ⟨rfl, hf⟩
      have hf' : Fr nowhere w w' := ⟨hf.os, hf.tape, hf.output, hf.size, fun k hk _ => hf.block k hk (by omega)⟩
      exact ⟨_, rfl, μ, agree.refl _ _, Nat.le_refl _, hH.quiet hf', ⟨_, rfl, ⟨_, rfl, .inl rfl⟩, rfl, trivial⟩, hf'.mono fun _ _ h => h.elim⟩
  · cases hs
end Go.Proofs.YteifneielgnniaaDoor.Sh
end
