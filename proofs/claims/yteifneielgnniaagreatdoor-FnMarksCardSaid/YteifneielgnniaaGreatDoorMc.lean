/- Numbers and marks that are read. No condition. -/
import Derived.Test.YteifneielgnniaaGreatDoorMb
import Derived.Lib.SplitLaws
import Derived.Shelf.Pu.Lays
import Derived.Shelf.Pu.Lower
import Derived.Shelf.Pu.ParseUintEmpty
import Derived.Shelf.Pu.ToError
import Derived.Shelf.Pu.ToErrorRange
import Derived.Lib.Strings
import Derived.Lib.Walk
import Derived.Lib.ConvBytes
import Derived.Lib.ParseIntBMem
import Derived.Lib.AtoiErrMem
import Derived.Lib.Hide
import Derived.Laws.Strings3
import Derived.Laws.Closers25
import Derived.Laws.Closers25b
import Derived.WalkKit
import Derived.BigCall
import Derived.BigGuard
import Derived.Shelf.Strings.Split
import Derived.Ground.MpProg
set_option linter.unusedVariables false
set_option linter.unusedSimpArgs false
set_option linter.unusedSectionVars false
section
namespace Go.Proofs.YteifneielgnniaaGreatDoor.Sh
open Go
/-! ## a text that is cut at each byte c -/
/-- the words of acc ++ l, where acc has no c -/
def splA (c : UInt8) : List UInt8 → List UInt8 → List (List UInt8)
  | acc, [] => [acc]
  | acc, b :: r => if b = c then acc :: splA c [] r else splA c (acc ++ [b]) r
def spl (c : UInt8) (l : List UInt8) : List (List UInt8) := splA c [] l
theorem splA_nil (c : UInt8) (acc : List UInt8) : splA c acc [] = [acc] := rfl
theorem splA_eq {b c : UInt8} (h : b = c) (acc r : List UInt8) : splA c acc (b :: r) = acc :: splA c [] r := if_pos h
theorem splA_ne {b c : UInt8} (h : ¬ b = c) (acc r : List UInt8) : splA c acc (b :: r) = splA c (acc ++ [b]) r := if_neg h
theorem splA_le (c : UInt8) : ∀ (l acc : List UInt8), (splA c acc l).length ≤ l.length + 1
  | [], acc => Nat.le_refl _
  | b :: r, acc => by
    by_cases h : b = c
    · rw [splA_eq h]; have := splA_le c r []; simp; omega
    · rw [splA_ne h]; have := splA_le c r (acc ++ [b]); simp; omega
def sumL : List (List UInt8) → Nat
  | [] => 0
  | w :: ws => w.length + 1 + sumL ws
theorem splA_tot (c : UInt8) : ∀ (l acc : List UInt8), sumL (splA c acc l) = acc.length + l.length + 1
  | [], acc => by simp [splA_nil, sumL]
  | b :: r, acc => by
    by_cases h : b = c
    · rw [splA_eq h, sumL, splA_tot c r []]; simp; omega
    · rw [splA_ne h, splA_tot c r]; simp; omega
/-- words of 8 bytes each: their number -/
theorem sumL_all {k : Nat} : ∀ {ws : List (List UInt8)}, (∀ w ∈ ws, w.length = k) → sumL ws = (k + 1) * ws.length
  | [], _ => rfl
  | w :: ws, h => by
    rw [sumL, sumL_all fun x hx => h x (List.mem_cons_of_mem _ hx), h w (List.mem_cons_self ..), List.length_cons, Nat.mul_add]; omega
theorem spl_num {c : UInt8} {l : List UInt8} {k m : Nat} (h : ∀ w ∈ spl c l, w.length = k) (hl : l.length + 1 = (k + 1) * m) : (spl c l).length = m := by
  have h1 := splA_tot c l []
  have h2 := sumL_all h
  unfold spl at h2 ⊢
  rw [h1] at h2
  simp only [List.length_nil, Nat.zero_add] at h2
  rw [hl] at h2
  exact (Nat.eq_of_mul_eq_mul_left (Nat.succ_pos k) h2).symm
/-! the kit's words are these -/
theorem index_one (c : UInt8) : ∀ l : List UInt8, Lib.index l [c] = if c ∈ l then ((l.takeWhile (· != c)).length : Int) else -1
  | [] => by simp [Lib.index]
  | b :: r => by
    unfold Lib.index
    by_cases h : b = c
    · subst h; simp [List.isPrefixOf]
    · have h' : ¬ c = b := fun e => h e.symm
      have hp : List.isPrefixOf [c] (b :: r) = false := by simp [List.isPrefixOf, h']
      rw [hp, index_one c r]
      by_cases hm : c ∈ r
      · rw [if_pos hm, if_pos (List.mem_cons_of_mem _ hm)]
        have : ¬ (((r.takeWhile (· != c)).length : Int) == -1) = true := fun e => by have := beq_iff_eq.1 e; omega
        simp [h]
      · rw [if_neg hm]
        simp [h', hm]
theorem splA_miss (c : UInt8) : ∀ (l acc : List UInt8), ¬ c ∈ l → splA c acc l = [acc ++ l]
  | [], acc, _ => by simp [splA_nil]
  | b :: r, acc, h => by
    rw [splA_ne (fun e => h (by rw [e]; exact List.mem_cons_self ..)), splA_miss c r _ fun hm => h (List.mem_cons_of_mem _ hm)]
    simp
theorem splA_hit (c : UInt8) : ∀ (l acc : List UInt8), c ∈ l → splA c acc l = (acc ++ l.takeWhile (· != c)) :: splA c [] (l.drop ((l.takeWhile (· != c)).length + 1))
  | [], acc, h => by simp at h
  | b :: r, acc, h => by
    by_cases e : b = c
    · subst e; rw [splA_eq rfl]; simp
    · rw [splA_ne e, splA_hit c r _ (by rcases List.mem_cons.1 h with h | h; exact absurd h.symm e; exact h)]
      simp [e]
theorem splitK_spl (c : UInt8) : ∀ (n : Nat) (l : List UInt8), l.length < n → Lib.splitK [c] 0 (Lib.count l [c]) l = splA c [] l
  | 0, l, h => by omega
  | n + 1, l, h => by
    rw [Lib.count_one]
    by_cases hm : c ∈ l
    · have hsp : l = l.takeWhile (· != c) ++ c :: l.drop ((l.takeWhile (· != c)).length + 1) := by
        clear h
        induction l with
        | nil => simp at hm
        | cons b r ih =>
          by_cases e : b = c
          · subst e; simp
          · have hr : c ∈ r := by rcases List.mem_cons.1 hm with h | h; exact absurd h.symm e; exact h
            have := ih hr
            simp [e]; exact this
      have h0 : (l.takeWhile (· != c)).count c = 0 := by
        rw [List.count_eq_zero]
        intro hx
        have := List.all_takeWhile (l := l) (p := (· != c))
        rw [List.all_eq_true] at this
        have := this c hx
        simp at this
      have hcount : l.count c = (l.drop ((l.takeWhile (· != c)).length + 1)).count c + 1 := by
        rw [congrArg (List.count c) hsp]
        rw [List.count_append, h0, List.count_cons_self]
        simp
      rw [hcount, splA_hit c l [] hm]
      unfold Lib.splitK
      rw [index_one, if_pos hm]
      have hne : ¬ (((l.takeWhile (· != c)).length : Int) == -1) = true := fun e => by have := beq_iff_eq.1 e; omega
      rw [if_neg hne]
      have ht : l.take (l.takeWhile (· != c)).length = l.takeWhile (· != c) := by
        have h := congrArg (List.take (l.takeWhile (· != c)).length) hsp
        rw [h, List.take_append_of_le_length (Nat.le_refl _), List.take_length]
      have hd : (l.drop ((l.takeWhile (· != c)).length + 1)).length < n := by have := List.length_pos_of_mem hm; rw [List.length_drop]; omega
      rw [← splitK_spl c n _ hd, Lib.count_one]
      simp only [Int.toNat_natCast, Nat.add_zero, List.length_singleton, List.nil_append, ht]
    · rw [splA_miss c l [] hm, List.count_eq_zero.2 hm]
      rfl
/-- bytes as a text -/
def tx (l : List UInt8) : ByteArray := ⟨l.toArray⟩
theorem tx_data (b : ByteArray) : tx b.data.toList = b := by cases b; simp [tx]
theorem splitB_spl (c : UInt8) (s : ByteArray) : Lib.splitB ⟨#[c]⟩ 0 (Lib.countB s ⟨#[c]⟩) s = (spl c s.data.toList).map tx := by
  have h := Lib.splitB_data ⟨#[c]⟩ 0 (Lib.countB s ⟨#[c]⟩) s
  have h2 : Lib.splitK [c] 0 (Lib.count s.data.toList [c]) s.data.toList = spl c s.data.toList := splitK_spl c _ _ (Nat.lt_succ_self _)
  have h3 : (Lib.splitB ⟨#[c]⟩ 0 (Lib.countB s ⟨#[c]⟩) s).map (·.data.toList) = spl c s.data.toList := h.trans h2
  rw [← h3, List.map_map]
  conv => lhs; rw [← List.map_id (Lib.splitB ⟨#[c]⟩ 0 (Lib.countB s ⟨#[c]⟩) s)]
  exact List.map_congr_left fun b _ => (tx_data b).symm
end Go.Proofs.YteifneielgnniaaGreatDoor.Sh
end
section
namespace Go.Proofs.YteifneielgnniaaGreatDoor.Sh
open Go Go.Proofs Go.Shelf Go.RowKit
variable {P : Program} {ρ : Ren}
/-! ## numbers of base 16 -/
/-- the value of a digit -/
def dg16 (c : Nat) : Option Nat := if 48 ≤ c ∧ c ≤ 57 then some (c - 48) else if 97 ≤ c ∧ c ≤ 102 then some (c - 87) else if 65 ≤ c ∧ c ≤ 70 then some (c - 55) else none
inductive R16 | ok (n : Nat) | no | big
/-- what the inner function hands back -/
def tupR (T : TypeId) : R16 → Value
  | .ok n => .tuple #[.int .u64 n, .nilIface]
  | .no => .tuple #[.int .u64 0, .iface T (.int .i64 2)]
  | .big => .tuple #[.int .u64 4294967295, .iface T (.int .i64 1)]
def p16 : Nat → List UInt8 → R16
  | acc, [] => .ok acc
  | acc, c :: r => match dg16 c.toNat with
    | none => .no
    | some d => if 4294967295 < acc * 16 + d then .big else p16 (acc * 16 + d) r
theorem low_tab : ∀ c, c < 256 → (97 ≤ bits .or .u8 (c : Nat) 32 ∧ bits .or .u8 (c : Nat) 32 ≤ 102 ↔ (97 ≤ c ∧ c ≤ 102) ∨ (65 ≤ c ∧ c ≤ 70)) ∧ (97 ≤ c → c ≤ 102 → bits .or .u8 (c : Nat) 32 = c) ∧ (65 ≤ c → c ≤ 70 → bits .or .u8 (c : Nat) 32 = (c : Int) + 32) := by decide +kernel
set_option maxHeartbeats 32000000 in
set_option maxRecDepth 100000 in
theorem pu16_in (L : LaysPu.n16 P ρ) (t : ByteArray) (hne : t.size ≠ 0) (hmax : t.size ≤ 9223372036854775806) (w : World) :
    Calls P (ρ.f 16) #[.string t, .int .i64 16, .int .i64 32] w fun e w' => e = .returned (tupR (ρ.t 34) (p16 0 t.data.toList)) ∧ w' = Lib.bytesWorld w (ρ.t 5) t := by
  have mixed := L.mixed
  have t9 := L.t9; have a9 := L.a9; have z9 := L.z9; have v9 := L.v9
  have t3 := L.t3; have a3 := L.a3; have z3 := L.z3; have v3 := L.v3
  have t22 := L.t22; have a22 := L.a22; have z22 := L.z22; have v22 := L.v22
  have t24 := L.t24; have a24 := L.a24; have z24 := L.z24; have v24 := L.v24
  have t4 := L.t4; have a4 := L.a4; have z4 := L.z4; have v4 := L.v4
  have t34 := L.t34; have a34 := L.a34; have z34 := L.z34; have v34 := L.v34
  have t5 := L.t5; have a5 := L.a5; have z5 := L.z5; have v5 := L.v5
  have t36 := L.t36; have a36 := L.a36; have z36 := L.z36; have v36 := L.v36
  have t37 := L.t37; have a37 := L.a37; have z37 := L.z37; have v37 := L.v37
  have t0 := L.t0; have a0 := L.a0; have z0 := L.z0; have v0 := L.v0
  have e19 : ∀ args w, (callFunc (ρ.f 19) args).run P w = .ok (.enter (ρ.f 19) args) w := enters_of L.f19 (by kernel_rfl) rfl
  have hemp : t.toList.isEmpty = false := by
    rw [← decide_eq_emptyBytes]
    exact decide_eq_false (fun h => hne (by rw [h]; rfl))
  have hcv := Lib.run_convert_string_bytes (P := P) w (ρ.t 9) (ρ.t 37) (ρ.t 5) t (u := .string) L.t9 L.t37 L.t5
  have hB : ∀ j, j < t.size → (Lib.bytesWorld w (ρ.t 5) t).cell? ⟨w.heap.size, j, none⟩ = some (.int .u8 (t.data.toList.getD j 0).toNat) := fun j hj => Lib.bytesWorld_cell w (ρ.t 5) t j hj
  obtain ⟨W1, hW1⟩ : ∃ W1, W1 = Lib.bytesWorld w (ρ.t 5) t := ⟨_, rfl⟩
  rw [← hW1] at hcv hB ⊢
  clear hW1
  obtain ⟨bs, hL⟩ : ∃ bs, bs = t.data.toList := ⟨_, rfl⟩
  have hLn : bs.length = t.size := by rw [hL, Lib.size_eq]
  rw [← hL] at hB ⊢
  clear hL
  have hmv : IntKind.u64.wrap (IntKind.u64.wrap 4294967296 - 1) = 4294967295 := by
    rw [IntKind.wrap_u64, IntKind.wrap_u64]
    decide
  go_enter L.f16, BodyPu.n16_ntmps ρ
  go_wp2
  go_loop [12, 13, 101] (fun vu vn vi => ∃ (k acc : Nat) (a : Int), vu = .bool false ∧ vn = .int .u64 a ∧ vi = .int .i64 k ∧ k ≤ t.size ∧ Hid (a = (acc : Int) ∧ acc ≤ 4294967295 ∧ p16 0 bs = p16 acc (bs.drop k)))
    (fun _ _ vi => t.size - (intOf vi).toNat)
  case atStart => exact ⟨0, 0, 0, rfl, rfl, rfl, by omega, rfl, by omega, rfl⟩
  case round =>
    obtain ⟨k, acc, a, rfl, rfl, rfl, hk, hh⟩ := hrel
    obtain ⟨ha, hacc, hdec⟩ := hh.out
    clear hh
    have a0 : 0 ≤ a := by omega
    have a1 : a ≤ 4294967295 := by omega
    by_cases hkn : k < t.size
    · have hc := hB k hkn
      have hdrop : bs.drop k = bs[k]'(by omega) :: bs.drop (k + 1) := List.drop_eq_getElem_cons (by omega)
      have hget : bs.getD k 0 = bs[k]'(by omega) := by simp [List.getD, List.getElem?_eq_getElem (show k < bs.length by omega)]
      rw [hdrop] at hdec
      rw [hget] at hc
      generalize bs[k]'(by omega) = c at hc hdec
      have hc256 : c.toNat < 256 := c.toNat_lt
      obtain ⟨lt1, lt2, lt3⟩ := low_tab c.toNat hc256
      clear hB hdrop hget
      by_cases hdig : 48 ≤ c.toNat ∧ c.toNat ≤ 57
      · obtain ⟨hd0, hd1⟩ := hdig
        have hg : dg16 c.toNat = some (c.toNat - 48) := by unfold dg16; rw [if_pos ⟨hd0, hd1⟩]
        have hcut : ¬ 1152921504606846976 ≤ acc := by omega
        clear lt1 lt2 lt3
        by_cases hov : 4294967295 < acc * 16 + (c.toNat - 48)
        · have hF : p16 acc (c :: bs.drop (k + 1)) = .big := by simp [p16, hg, hov]
          rw [hF] at hdec
          have iov : 4294967295 < a * 16 + ((c.toNat : Int) - 48) := by omega
          clear hcut hacc hF hov ha hg
          go_wp2
          go_ret2
          exact ⟨rfl, rfl⟩
        · have hF : p16 acc (c :: bs.drop (k + 1)) = p16 (acc * 16 + (c.toNat - 48)) (bs.drop (k + 1)) := by simp [p16, hg, hov]
          have HN : Hid (a * 16 + ((c.toNat : Int) - 48) = ((acc * 16 + (c.toNat - 48) : Nat) : Int) ∧ acc * 16 + (c.toNat - 48) ≤ 4294967295 ∧ p16 0 bs = p16 (acc * 16 + (c.toNat - 48)) (bs.drop (k + 1))) := Lib.hid ⟨by omega, by omega, hdec.trans hF⟩
          have iov : a * 16 + ((c.toNat : Int) - 48) ≤ 4294967295 := by omega
          clear hcut hacc hF hov hdec ha hg
          go_wp2
          refine ⟨⟨k + 1, acc * 16 + (c.toNat - 48), a * 16 + ((c.toNat : Int) - 48), rfl, (by first | rfl | (congr 1; omega)), (by first | rfl | (congr 1; omega)), by omega, HN⟩, by simp [intOf]; omega⟩
      · have hv0 := bits_lo_u8 .or (c.toNat : Int) 32
        have hv1 := bits_hi_u8 .or (c.toNat : Int) 32
        have hu0 := bits_lo_u8 .or 95 32
        have hu1 := bits_hi_u8 .or 95 32
        have hnd : ¬ (48 ≤ (c.toNat : Int) ∧ (c.toNat : Int) ≤ 57) := by omega
        by_cases hlet : (97 ≤ c.toNat ∧ c.toNat ≤ 102) ∨ (65 ≤ c.toNat ∧ c.toNat ≤ 70)
        · obtain ⟨l0, l1⟩ := lt1.2 hlet
          obtain ⟨d, hg, hd⟩ : ∃ d : Nat, dg16 c.toNat = some d ∧ (d : Int) = bits .or .u8 (c.toNat : Nat) 32 - 87 := by
            unfold dg16
            rw [if_neg hdig]
            rcases hlet with h | h
            · exact ⟨c.toNat - 87, by rw [if_pos h], by rw [lt2 h.1 h.2]; omega⟩
            · exact ⟨c.toNat - 55, by rw [if_neg (by omega), if_pos h], by rw [lt3 h.1 h.2]; omega⟩
          have hc95 : ¬ (c.toNat : Int) = 95 := by omega
          clear lt1 lt2 lt3 hlet hdig
          have hcut : ¬ 1152921504606846976 ≤ acc := by omega
          by_cases hov : 4294967295 < acc * 16 + d
          · have hF : p16 acc (c :: bs.drop (k + 1)) = .big := by simp [p16, hg, hov]
            rw [hF] at hdec
            have iov : 4294967295 < a * 16 + (bits .or .u8 (c.toNat : Int) 32 - 87) := by omega
            clear hcut hacc hF hov ha hg
            go_wp2_with (go_at_fn (ρ.f 19); refine (AnyPu.internal_strconv_lower { L with } _ _).mono ?_; rintro e w' ⟨rfl, rfl⟩)
            all_goals go_ret2
            all_goals first | exact ⟨rfl, rfl⟩ | exact ⟨by rw [hdec]; rfl, rfl⟩
          · have hF : p16 acc (c :: bs.drop (k + 1)) = p16 (acc * 16 + d) (bs.drop (k + 1)) := by simp [p16, hg, hov]
            have HN : Hid (a * 16 + (bits .or .u8 (c.toNat : Int) 32 - 87) = ((acc * 16 + d : Nat) : Int) ∧ acc * 16 + d ≤ 4294967295 ∧ p16 0 bs = p16 (acc * 16 + d) (bs.drop (k + 1))) := Lib.hid ⟨by omega, by omega, hdec.trans hF⟩
            have iov : a * 16 + (bits .or .u8 (c.toNat : Int) 32 - 87) ≤ 4294967295 := by omega
            clear hcut hacc hF hov hdec ha hg
            go_wp2_with (go_at_fn (ρ.f 19); refine (AnyPu.internal_strconv_lower { L with } _ _).mono ?_; rintro e w' ⟨rfl, rfl⟩)
            all_goals first | (refine ⟨⟨k + 1, acc * 16 + d, a * 16 + (bits .or .u8 (c.toNat : Int) 32 - 87), rfl, (by first | rfl | (congr 1; omega)), (by first | rfl | (congr 1; omega)), by omega, HN⟩, by simp [intOf]; omega⟩) | (exfalso; omega)
        · have hnl := fun h => hlet (lt1.1 h)
          have hg : dg16 c.toNat = none := by
            unfold dg16
            rw [if_neg hdig, if_neg (fun h => hlet (.inl h)), if_neg (fun h => hlet (.inr h))]
          have hF : p16 acc (c :: bs.drop (k + 1)) = .no := by simp [p16, hg]
          rw [hF] at hdec
          clear hacc hF ha lt1 lt2 lt3 hlet hg
          go_wp2_with (go_at_fn (ρ.f 19); refine (AnyPu.internal_strconv_lower { L with } _ _).mono ?_; rintro e w' ⟨rfl, rfl⟩)
          all_goals first | (exfalso; exact hnl ⟨by omega, by omega⟩) | (go_ret2; first | exact ⟨rfl, rfl⟩ | exact ⟨by rw [hdec]; rfl, rfl⟩)
    · have hkk : k = t.size := by omega
      subst hkk
      have hF : p16 acc (bs.drop t.size) = .ok acc := by rw [List.drop_eq_nil_of_le (by omega)]; rfl
      rw [hF] at hdec
      subst ha
      clear hacc hF a0 a1
      go_wp2
      go_ret2
      exact ⟨rfl, rfl⟩
end Go.Proofs.YteifneielgnniaaGreatDoor.Sh
end
section
namespace Go.Proofs.YteifneielgnniaaGreatDoor.Sh
open Go Go.Proofs Go.Shelf Go.RowKit
variable {P : Program} {ρ : Ren}
/-- what a text of base 16 is: none at the empty one -/
def q16 (l : List UInt8) : R16 := if l = [] then .no else p16 0 l
theorem pu16_any (L : LaysPu.n16 P ρ) (t : ByteArray) (hmax : t.size ≤ 9223372036854775806) (w : World) :
    Calls P (ρ.f 16) #[.string t, .int .i64 16, .int .i64 32] w fun e w' => e = .returned (tupR (ρ.t 34) (q16 t.data.toList)) ∧ Below w.heap.size w w' := by
  by_cases h0 : t.size = 0
  · have ht : t = ⟨#[]⟩ := by
      apply ByteArray.ext
      exact Array.eq_empty_of_size_eq_zero h0
    subst ht
    exact (AnyPu.internal_strconv_ParseUint_empty { L with } 16 32 w).mono fun e w' ⟨he, hw⟩ => ⟨he, by rw [hw]; exact Below.refl _ _⟩
  · have hne : t.data.toList ≠ [] := fun h => h0 (by rw [Lib.size_eq, h]; rfl)
    refine (pu16_in { L with } t h0 hmax w).mono fun e w' ⟨he, hw⟩ => ⟨?_, by rw [hw]; exact Lib.bytesWorld_below _ _ _⟩
    rw [he, q16, if_neg hne]
set_option maxHeartbeats 4000000 in
set_option maxRecDepth 100000 in
theorem pu16_pub (L : LaysPu.n14 P ρ) (s : ByteArray) (hlim : s.size ≤ 281474976710656) (ev er : Value) (w : World) (hv : w.cell? ⟨(ρ.g 0), 0, none⟩ = some ev) (hev : ev = .nilIface ∨ ∃ te pe, ev = .iface te pe)
    (hu : w.cell? ⟨(ρ.g 1), 0, none⟩ = some er) (her : er = .nilIface ∨ ∃ te pe, er = .iface te pe) :
    Calls P (ρ.f 14) #[.string s, .int .i64 16, .int .i64 32] w fun e w' => (∃ x y, e = .returned (.tuple #[.int .u64 x, y]) ∧ ((∃ n : Nat, q16 s.data.toList = .ok n ∧ x = n ∧ y = .nilIface) ∨ ((∀ n, q16 s.data.toList ≠ .ok n) ∧ ∃ T p, y = .iface T p))) ∧ Below w.heap.size w w' := by
  have mixed := L.mixed
  have t9 := L.t9; have a9 := L.a9; have z9 := L.z9; have v9 := L.v9
  have t3 := L.t3; have a3 := L.a3; have z3 := L.z3; have v3 := L.v3
  have t22 := L.t22; have a22 := L.a22; have z22 := L.z22; have v22 := L.v22
  have t24 := L.t24; have a24 := L.a24; have z24 := L.z24; have v24 := L.v24
  have t25 := L.t25; have a25 := L.a25; have z25 := L.z25; have v25 := L.v25
  have t4 := L.t4; have a4 := L.a4; have z4 := L.z4; have v4 := L.v4
  have e16 : ∀ args w, (callFunc (ρ.f 16) args).run P w = .ok (.enter (ρ.f 16) args) w := enters_of L.f16 (by kernel_rfl) rfl
  have e17 : ∀ args w, (callFunc (ρ.f 17) args).run P w = .ok (.enter (ρ.f 17) args) w := enters_of L.f17 (by kernel_rfl) rfl
  have hG : (ρ.g 0) < w.heap.size := Lib.lt_of_cell hv
  have hG1 : (ρ.g 1) < w.heap.size := Lib.lt_of_cell hu
  have hI := pu16_any { L with } s (by omega) w
  cases hq : q16 s.data.toList with
  | ok u =>
    rw [hq] at hI
    have hI : Calls P (ρ.f 16) #[.string s, .int .i64 16, .int .i64 32] w fun e w' => e = .returned (.tuple #[.int .u64 u, .nilIface]) ∧ Below w.heap.size w w' := hI
    clear hq
    go_enter L.f14, BodyPu.n14_ntmps ρ
    go_wp2_with (go_at_fn (ρ.f 16); refine hI.mono ?_; rintro e W1 ⟨rfl, hW⟩)
    go_wp2
    go_ret2
    exact ⟨⟨_, _, rfl, .inl ⟨u, rfl, rfl, rfl⟩⟩, hW⟩
  | no =>
    rw [hq] at hI
    have hI : Calls P (ρ.f 16) #[.string s, .int .i64 16, .int .i64 32] w fun e w' => e = .returned (.tuple #[.int .u64 0, .iface (ρ.t 34) (.int .i64 2)]) ∧ Below w.heap.size w w' := hI
    clear hq
    go_enter L.f14, BodyPu.n14_ntmps ρ
    go_wp2_with (go_at_fn (ρ.f 16); refine hI.mono ?_)
    rintro e W1 ⟨rfl, hb1⟩
    have hv1 : W1.cell? ⟨(ρ.g 0), 0, none⟩ = some ev := (hb1.cell (show (⟨(ρ.g 0), 0, none⟩ : Addr).block < w.heap.size from hG)).trans hv
    go_wp2_with (go_at_fn (ρ.f 17); refine (AnyPu.strconv_toError_syntax { L with } ⟨#[80, 97, 114, 115, 101, 85, 105, 110, 116]⟩ s 16 32 ev _ hlim ?_ hev).mono ?_)
    · exact hv1
    rintro e W2 ⟨N, rfl, h1, h2, h3⟩
    go_wp2
    go_ret2
    exact ⟨⟨_, _, rfl, .inr ⟨fun n h => (by cases h), _, _, rfl⟩⟩, hb1.trans (h3.mono hb1.size)⟩
  | big =>
    rw [hq] at hI
    have hI : Calls P (ρ.f 16) #[.string s, .int .i64 16, .int .i64 32] w fun e w' => e = .returned (.tuple #[.int .u64 4294967295, .iface (ρ.t 34) (.int .i64 1)]) ∧ Below w.heap.size w w' := hI
    clear hq
    go_enter L.f14, BodyPu.n14_ntmps ρ
    go_wp2_with (go_at_fn (ρ.f 16); refine hI.mono ?_)
    rintro e W1 ⟨rfl, hb1⟩
    have hv1 : W1.cell? ⟨(ρ.g 1), 0, none⟩ = some er := (hb1.cell (show (⟨(ρ.g 1), 0, none⟩ : Addr).block < w.heap.size from hG1)).trans hu
    go_wp2_with (go_at_fn (ρ.f 17); refine (AnyPu.strconv_toError_range { L with } ⟨#[80, 97, 114, 115, 101, 85, 105, 110, 116]⟩ s 16 32 er _ hlim ?_ her).mono ?_)
    · exact hv1
    rintro e W2 ⟨N, rfl, h1, h2, h3⟩
    go_wp2
    go_ret2
    exact ⟨⟨_, _, rfl, .inr ⟨fun n h => (by cases h), _, _, rfl⟩⟩, hb1.trans (h3.mono hb1.size)⟩
end Go.Proofs.YteifneielgnniaaGreatDoor.Sh
end
section
namespace Go.Proofs.YteifneielgnniaaGreatDoor.Sh
open Go Go.Proofs
/-! ## the number of a text of eight digits -/
def hx0 (c : UInt8) : Nat := if 48 ≤ c.toNat ∧ c.toNat ≤ 57 then c.toNat - 48 else c.toNat - 87
def hok (c : UInt8) : Bool := decide ((48 ≤ c.toNat ∧ c.toNat ≤ 57) ∨ (97 ≤ c.toNat ∧ c.toNat ≤ 102))
def pv : Nat → List UInt8 → Nat
  | acc, [] => acc
  | acc, c :: r => pv (acc * 16 + hx0 c) r
def rnOk (l : List UInt8) : Bool := l.length == 8 && l.all hok && bitsX (pv 0 l) == pv 0 l
def rn (l : List UInt8) : Nat := if rnOk l = true then pv 0 l else 0
def rnC (l : List UInt8) : Int := if rnOk l = true then 0 else 5
theorem hx0_lt {c : UInt8} (h : hok c = true) : hx0 c < 16 := by
  unfold hok at h; unfold hx0
  have := of_decide_eq_true h
  split <;> omega
theorem pv_ge : ∀ (l : List UInt8) (acc : Nat), acc ≤ pv acc l
  | [], acc => Nat.le_refl _
  | c :: r, acc => by
    have := pv_ge r (acc * 16 + hx0 c)
    unfold pv; omega
theorem pv_acc : ∀ (l : List UInt8) (acc : Nat), pv acc l = acc * 16 ^ l.length + pv 0 l
  | [], acc => by simp [pv]
  | c :: r, acc => by
    unfold pv
    rw [pv_acc r (acc * 16 + hx0 c), pv_acc r (0 * 16 + hx0 c), List.length_cons, Nat.pow_succ]
    simp only [Nat.zero_mul, Nat.zero_add, Nat.add_mul]
    rw [Nat.mul_assoc, Nat.mul_comm 16 (16 ^ r.length)]
    omega
theorem pv_lt : ∀ (l : List UInt8), l.all hok = true → pv 0 l < 16 ^ l.length
  | [], _ => by simp [pv]
  | c :: r, h => by
    simp only [List.all_cons, Bool.and_eq_true] at h
    unfold pv
    rw [pv_acc, List.length_cons, Nat.pow_succ]
    have h1 := hx0_lt h.1
    have h2 := pv_lt r h.2
    simp only [Nat.zero_mul, Nat.zero_add]
    have : hx0 c * 16 ^ r.length ≤ 15 * 16 ^ r.length := Nat.mul_le_mul_right _ (by omega)
    omega
theorem dg16_hok {c : UInt8} (h : hok c = true) : dg16 c.toNat = some (hx0 c) := by
  unfold hok at h
  have := of_decide_eq_true h
  unfold dg16 hx0
  by_cases h1 : 48 ≤ c.toNat ∧ c.toNat ≤ 57
  · rw [if_pos h1, if_pos h1]
  · rw [if_neg h1, if_neg h1, if_pos (by omega)]
theorem p16_ok : ∀ (l : List UInt8) (acc : Nat), l.all hok = true → pv acc l < 4294967296 → p16 acc l = .ok (pv acc l)
  | [], acc, _, _ => rfl
  | c :: r, acc, h, hl => by
    simp only [List.all_cons, Bool.and_eq_true] at h
    unfold p16
    rw [dg16_hok h.1]
    have h1 := pv_ge r (acc * 16 + hx0 c)
    have h2 : pv acc (c :: r) = pv (acc * 16 + hx0 c) r := rfl
    have h3 := p16_ok r (acc * 16 + hx0 c) h.2 (by omega)
    dsimp only
    rw [if_neg (by omega), h3, h2]
theorem hx_tab : ∀ d, d < 16 → hok (b8 (hxI d)) = true ∧ hx0 (b8 (hxI d)) = d := by decide
theorem hx_inv : ∀ n, n < 256 → hok (UInt8.ofNat n) = true → b8 (hxI (hx0 (UInt8.ofNat n))) = UInt8.ofNat n := by decide +kernel
theorem hx_inv' (c : UInt8) (h : hok c = true) : b8 (hxI (hx0 c)) = c := by
  have := hx_inv c.toNat c.toNat_lt (by simpa using h)
  simpa using this
theorem pv_dig (x : Nat) : ∀ (n acc : Nat), pv acc ((digL x n).map b8) = acc * 16 ^ n + x % 16 ^ n
  | 0, acc => by simp [digL, pv, Nat.mod_one]
  | n + 1, acc => by
    have h := hx_tab (sh x n % 16) (Nat.mod_lt _ (by decide))
    show pv (acc * 16 + hx0 (b8 (hxI (sh x n % 16)))) ((digL x n).map b8) = _
    rw [h.2, pv_dig x n, Nat.pow_succ, Nat.mod_mul]
    unfold sh
    rw [Nat.add_mul, Nat.mul_assoc, Nat.mul_comm 16 (16 ^ n), Nat.mul_comm (x / 16 ^ n % 16) (16 ^ n)]
    omega
theorem dig_hok (x : Nat) : ∀ n, ((digL x n).map b8).all hok = true
  | 0 => rfl
  | n + 1 => by
    show (b8 (hxI (sh x n % 16)) :: (digL x n).map b8).all hok = true
    rw [List.all_cons, dig_hok x n, (hx_tab (sh x n % 16) (Nat.mod_lt _ (by decide))).1]; rfl
theorem sh_mod (a y n j : Nat) (h : j < n) : sh (a * 16 ^ n + y) j % 16 = sh y j % 16 := by
  unfold sh
  have e : a * 16 ^ n = 16 ^ j * (16 * (a * 16 ^ (n - j - 1))) := by
    have : n = j + 1 + (n - j - 1) := by omega
    conv => lhs; rw [this, Nat.pow_add, Nat.pow_add, Nat.pow_one]
    generalize 16 ^ (n - j - 1) = u
    generalize 16 ^ j = v
    rw [Nat.mul_assoc v 16 u, ← Nat.mul_assoc a v, Nat.mul_comm a v, Nat.mul_assoc, ← Nat.mul_assoc a 16 u, Nat.mul_comm a 16, Nat.mul_assoc]
  rw [e, Nat.mul_add_div (Nat.pow_pos (by decide)), Nat.mul_add_mod]
theorem digL_mod (a y n : Nat) : ∀ m, m ≤ n → digL (a * 16 ^ n + y) m = digL y m
  | 0, _ => rfl
  | m + 1, h => by
    show hxI (sh (a * 16 ^ n + y) m % 16) :: digL (a * 16 ^ n + y) m = hxI (sh y m % 16) :: digL y m
    rw [sh_mod a y n m (by omega), digL_mod a y n m (by omega)]
theorem dig_pv : ∀ (l : List UInt8), l.all hok = true → (digL (pv 0 l) l.length).map b8 = l
  | [], _ => rfl
  | c :: r, h => by
    simp only [List.all_cons, Bool.and_eq_true] at h
    have e : pv 0 (c :: r) = hx0 c * 16 ^ r.length + pv 0 r := by
      show pv (0 * 16 + hx0 c) r = _
      rw [pv_acc]; simp
    have hl := pv_lt r h.2
    have hs : sh (pv 0 (c :: r)) r.length % 16 = hx0 c := by
      rw [e]; unfold sh
      rw [Nat.mul_comm, Nat.mul_add_div (Nat.pow_pos (by decide)), Nat.div_eq_of_lt hl]
      simpa using Nat.mod_eq_of_lt (hx0_lt h.1)
    show b8 (hxI (sh (pv 0 (c :: r)) r.length % 16)) :: (digL (pv 0 (c :: r)) r.length).map b8 = c :: r
    rw [hs, hx_inv' c h.1, e, digL_mod _ _ _ _ (Nat.le_refl _), dig_pv r h.2]
theorem bytesT_list (l : List Int) : (bytesT l).data.toList = l.map b8 := by rw [bytesT_eq]
theorem hexT_list (x : Nat) : (hexT x).data.toList = (digL x 8).map b8 := by
  unfold hexT; rw [bytesT_list, hexTo_8]
theorem bitsX_bitsX (a : Nat) : bitsX (bitsX a) = bitsX a := by
  cases h : isNan a with
  | true => rw [bits_t h]; decide +kernel
  | false => rw [bits_f h, bits_f h]
/-- the program's reading is the reference's -/
theorem rnI_iff (t : ByteArray) : (∃ n, p16 0 t.data.toList = .ok n ∧ n < 4294967296 ∧ numT n = t) → rnOk t.data.toList = true := by
  rintro ⟨n, hn, hlt, ht⟩
  have hb : bitsX n < 4294967296 := bitsX_lt hlt
  have hl : t.data.toList = (digL (bitsX n) 8).map b8 := by
    rw [← ht]; exact hexT_list _
  have hall : t.data.toList.all hok = true := by rw [hl]; exact dig_hok _ _
  have hpv : pv 0 t.data.toList = bitsX n := by
    rw [hl, pv_dig]
    have : (16 : Nat) ^ 8 = 4294967296 := by decide
    rw [this, Nat.mod_eq_of_lt hb]; simp
  have hlen : t.data.toList.length = 8 := by
    rw [hl, List.length_map]; rfl
  unfold rnOk
  rw [hall, hpv, bitsX_bitsX, hlen]
  simp
theorem rnOk_p16 {t : ByteArray} (h : rnOk t.data.toList = true) : p16 0 t.data.toList = .ok (pv 0 t.data.toList) ∧ pv 0 t.data.toList < 4294967296 ∧ numT (pv 0 t.data.toList) = t ∧ t.data.toList.length = 8 := by
  unfold rnOk at h
  simp only [Bool.and_eq_true, beq_iff_eq] at h
  obtain ⟨⟨h8, hall⟩, hb⟩ := h
  have hlt := pv_lt _ hall
  rw [h8] at hlt
  have hlt : pv 0 t.data.toList < 4294967296 := hlt
  refine ⟨p16_ok _ _ hall hlt, hlt, ?_, h8⟩
  show hexT (bitsX (pv 0 t.data.toList)) = t
  rw [hb]
  have e : (hexT (pv 0 t.data.toList)).data.toList = t.data.toList := by
    rw [hexT_list, ← h8, dig_pv _ hall]
  rw [← tx_data (hexT (pv 0 t.data.toList)), e, tx_data]
theorem p16_lt : ∀ (l : List UInt8) (acc n : Nat), acc < 4294967296 → p16 acc l = .ok n → n < 4294967296
  | [], acc, n, h, e => by simp only [p16] at e; cases e; exact h
  | c :: r, acc, n, h, e => by
    unfold p16 at e
    split at e
    · cases e
    · split at e
      · cases e
      · exact p16_lt r _ n (by omega) e
end Go.Proofs.YteifneielgnniaaGreatDoor.Sh
end
section
namespace Go.Proofs.YteifneielgnniaaGreatDoor.Sh
open Go Go.Proofs Go.RowKit Go.Shelf
def Tryz.laysPu_ren : Go.Shelf.Ren := ⟨fun | 14 => 151 | 16 => 167 | 17 => 168 | 19 => 182 | 20 => 183 | 21 => 184 | 22 => 185 | 23 => 186 | 24 => 187 | 25 => 198 | 27 => 200 | 26 => 199 | 28 => 205 | 29 => 206 | 30 => 173 | 31 => 174 | 32 => 175 | 33 => 176 | 35 => 194 | 34 => 193 | 36 => 195 | 37 => 196 | 38 => 197 | 39 => 203 | 40 => 204 | n => n, fun | 9 => 9 | 3 => 3 | 22 => 120 | 24 => 149 | 25 => 156 | 4 => 4 | 34 => 186 | 5 => 5 | 36 => 140 | 37 => 22 | 0 => 0 | 39 => 189 | 21 => 21 | 44 => 200 | 47 => 166 | 50 => 210 | 48 => 208 | 2 => 2 | 52 => 174 | 55 => 177 | 59 => 194 | 60 => 127 | 20 => 20 | 61 => 195 | 65 => 211 | 66 => 212 | 67 => 152 | n => n, fun | 0 => 3 | 1 => 4 | 2 => 2 | 3 => 7 | 4 => 8 | n => n⟩
theorem Tryz.laysPu : Go.Proofs.LaysPu.n14 Tryz.prog Tryz.laysPu_ren := {
  mixed := by kernel_rfl
  f14 := Tryz.func151.trans (congrArg some (by kernel_rfl))
  f16 := Tryz.func167.trans (congrArg some (by kernel_rfl))
  f17 := Tryz.func168.trans (congrArg some (by kernel_rfl))
  f19 := Tryz.func182.trans (congrArg some (by kernel_rfl))
  f20 := Tryz.func183.trans (congrArg some (by kernel_rfl))
  f21 := Tryz.func184.trans (congrArg some (by kernel_rfl))
  f22 := Tryz.func185.trans (congrArg some (by kernel_rfl))
  f23 := Tryz.func186.trans (congrArg some (by kernel_rfl))
  f24 := Tryz.func187.trans (congrArg some (by kernel_rfl))
  f25 := Tryz.func198.trans (congrArg some (by kernel_rfl))
  f26 := Tryz.func199.trans (congrArg some (by kernel_rfl))
  f27 := Tryz.func200.trans (congrArg some (by kernel_rfl))
  f28 := Tryz.func205.trans (congrArg some (by kernel_rfl))
  f29 := Tryz.func206.trans (congrArg some (by kernel_rfl))
  f30 := Tryz.func173.trans (congrArg some (by kernel_rfl))
  f31 := Tryz.func174.trans (congrArg some (by kernel_rfl))
  f32 := Tryz.func175.trans (congrArg some (by kernel_rfl))
  f33 := Tryz.func176.trans (congrArg some (by kernel_rfl))
  f34 := Tryz.func193.trans (congrArg some (by kernel_rfl))
  f35 := Tryz.func194.trans (congrArg some (by kernel_rfl))
  f36 := Tryz.func195.trans (congrArg some (by kernel_rfl))
  f37 := Tryz.func196.trans (congrArg some (by kernel_rfl))
  f38 := Tryz.func197.trans (congrArg some (by kernel_rfl))
  f39 := Tryz.func203.trans (congrArg some (by kernel_rfl))
  f40 := Tryz.func204.trans (congrArg some (by kernel_rfl))
  t0 := Tryz.underlying0
  a0 := Tryz.isAgg0
  z0 := Tryz.sizeOf0
  v0 := Tryz.zeroValue0
  i0 := by kernel_rfl
  t2 := Tryz.underlying2
  a2 := Tryz.isAgg2
  z2 := Tryz.sizeOf2
  v2 := Tryz.zeroValue2
  i2 := by kernel_rfl
  t3 := Tryz.underlying3
  a3 := Tryz.isAgg3
  z3 := Tryz.sizeOf3
  v3 := Tryz.zeroValue3
  i3 := by kernel_rfl
  t4 := Tryz.underlying4
  a4 := Tryz.isAgg4
  z4 := Tryz.sizeOf4
  v4 := Tryz.zeroValue4
  i4 := by kernel_rfl
  t5 := Tryz.underlying5
  a5 := Tryz.isAgg5
  z5 := Tryz.sizeOf5
  v5 := Tryz.zeroValue5
  i5 := by kernel_rfl
  t9 := Tryz.underlying9
  a9 := Tryz.isAgg9
  z9 := Tryz.sizeOf9
  v9 := Tryz.zeroValue9
  i9 := by kernel_rfl
  t20 := Tryz.underlying20
  a20 := Tryz.isAgg20
  z20 := Tryz.sizeOf20
  v20 := Tryz.zeroValue20
  i20 := by kernel_rfl
  t21 := Tryz.underlying21
  a21 := Tryz.isAgg21
  z21 := Tryz.sizeOf21
  v21 := Tryz.zeroValue21
  i21 := by kernel_rfl
  t22 := Tryz.underlying120
  a22 := Tryz.isAgg120
  z22 := Tryz.sizeOf120
  v22 := Tryz.zeroValue120
  i22 := by kernel_rfl
  t24 := Tryz.underlying149
  a24 := Tryz.isAgg149
  z24 := Tryz.sizeOf149
  v24 := Tryz.zeroValue149
  i24 := by kernel_rfl
  t25 := Tryz.underlying156
  a25 := Tryz.isAgg156
  z25 := Tryz.sizeOf156
  v25 := Tryz.zeroValue156
  i25 := by kernel_rfl
  t34 := Tryz.underlying186
  a34 := Tryz.isAgg186
  z34 := Tryz.sizeOf186
  v34 := Tryz.zeroValue186
  i34 := by kernel_rfl
  c34 := by kernel_rfl
  t36 := Tryz.underlying140
  a36 := Tryz.isAgg140
  z36 := Tryz.sizeOf140
  v36 := Tryz.zeroValue140
  i36 := by kernel_rfl
  t37 := Tryz.underlying22
  a37 := Tryz.isAgg22
  z37 := Tryz.sizeOf22
  v37 := Tryz.zeroValue22
  i37 := by kernel_rfl
  t39 := Tryz.underlying189
  a39 := Tryz.isAgg189
  z39 := Tryz.sizeOf189
  v39 := Tryz.zeroValue189
  i39 := by kernel_rfl
  t44 := Tryz.underlying200
  a44 := Tryz.isAgg200
  z44 := Tryz.sizeOf200
  v44 := Tryz.zeroValue200
  i44 := by kernel_rfl
  t47 := Tryz.underlying166
  a47 := Tryz.isAgg166
  z47 := Tryz.sizeOf166
  v47 := Tryz.zeroValue166
  i47 := by kernel_rfl
  t48 := Tryz.underlying208
  a48 := Tryz.isAgg208
  z48 := Tryz.sizeOf208
  v48 := Tryz.zeroValue208
  i48 := by kernel_rfl
  t50 := Tryz.underlying210
  a50 := Tryz.isAgg210
  z50 := Tryz.sizeOf210
  v50 := Tryz.zeroValue210
  i50 := by kernel_rfl
  t52 := Tryz.underlying174
  a52 := Tryz.isAgg174
  z52 := Tryz.sizeOf174
  v52 := Tryz.zeroValue174
  i52 := by kernel_rfl
  t55 := Tryz.underlying177
  a55 := Tryz.isAgg177
  z55 := Tryz.sizeOf177
  v55 := Tryz.zeroValue177
  i55 := by kernel_rfl
  t59 := Tryz.underlying194
  a59 := Tryz.isAgg194
  z59 := Tryz.sizeOf194
  v59 := Tryz.zeroValue194
  i59 := by kernel_rfl
  t60 := Tryz.underlying127
  a60 := Tryz.isAgg127
  z60 := Tryz.sizeOf127
  v60 := Tryz.zeroValue127
  i60 := by kernel_rfl
  t61 := Tryz.underlying195
  a61 := Tryz.isAgg195
  z61 := Tryz.sizeOf195
  t65 := Tryz.underlying211
  a65 := Tryz.isAgg211
  z65 := Tryz.sizeOf211
  v65 := Tryz.zeroValue211
  i65 := by kernel_rfl
  t66 := Tryz.underlying212
  a66 := Tryz.isAgg212
  z66 := Tryz.sizeOf212
  v66 := Tryz.zeroValue212
  i66 := by kernel_rfl
  t67 := Tryz.underlying152
  a67 := Tryz.isAgg152
  z67 := Tryz.sizeOf152
  v67 := Tryz.zeroValue152
  i67 := by kernel_rfl
  g0 := by kernel_rfl
  m0 := by kernel_rfl
  g1 := by kernel_rfl
  m1 := by kernel_rfl
  g2 := by kernel_rfl
  m2 := by kernel_rfl
  g3 := by kernel_rfl
  m3 := by kernel_rfl
  g4 := by kernel_rfl
  m4 := by kernel_rfl }
def Tryz.laysSplit_ren : Go.Shelf.Ren := ⟨fun | 146 => 114 | 221 => 138 | 268 => 157 | 138 => 158 | 143 => 159 | 195 => 169 | 197 => 170 | 218 => 171 | 219 => 172 | 260 => 188 | 217 => 189 | 225 => 190 | 224 => 191 | 267 => 192 | 266 => 201 | 314 => 202 | n => n, fun | 9 => 9 | 31 => 103 | 3 => 3 | 4 => 4 | 0 => 0 | 105 => 170 | 21 => 21 | 5 => 5 | 46 => 140 | 119 => 202 | 139 => 205 | 138 => 204 | 146 => 179 | 51 => 127 | n => n, fun | 1 => 1 | 3 => 5 | 4 => 6 | n => n⟩
theorem Tryz.laysSplit : Go.Proofs.Lays.n146 Tryz.prog Tryz.laysSplit_ren := {
  mixed := by kernel_rfl
  f138 := Tryz.func158.trans (congrArg some (by kernel_rfl))
  f143 := Tryz.func159.trans (congrArg some (by kernel_rfl))
  f146 := Tryz.func114.trans (congrArg some (by kernel_rfl))
  f195 := Tryz.func169.trans (congrArg some (by kernel_rfl))
  f197 := Tryz.func170.trans (congrArg some (by kernel_rfl))
  f217 := Tryz.func189.trans (congrArg some (by kernel_rfl))
  f218 := Tryz.func171.trans (congrArg some (by kernel_rfl))
  f219 := Tryz.func172.trans (congrArg some (by kernel_rfl))
  f221 := Tryz.func138.trans (congrArg some (by kernel_rfl))
  f224 := Tryz.func191.trans (congrArg some (by kernel_rfl))
  f225 := Tryz.func190.trans (congrArg some (by kernel_rfl))
  f260 := Tryz.func188.trans (congrArg some (by kernel_rfl))
  f266 := Tryz.func201.trans (congrArg some (by kernel_rfl))
  f267 := Tryz.func192.trans (congrArg some (by kernel_rfl))
  f268 := Tryz.func157.trans (congrArg some (by kernel_rfl))
  f314 := Tryz.func202.trans (congrArg some (by kernel_rfl))
  t0 := Tryz.underlying0
  a0 := Tryz.isAgg0
  z0 := Tryz.sizeOf0
  v0 := Tryz.zeroValue0
  t3 := Tryz.underlying3
  a3 := Tryz.isAgg3
  z3 := Tryz.sizeOf3
  v3 := Tryz.zeroValue3
  t4 := Tryz.underlying4
  a4 := Tryz.isAgg4
  z4 := Tryz.sizeOf4
  v4 := Tryz.zeroValue4
  t5 := Tryz.underlying5
  a5 := Tryz.isAgg5
  z5 := Tryz.sizeOf5
  v5 := Tryz.zeroValue5
  t9 := Tryz.underlying9
  a9 := Tryz.isAgg9
  z9 := Tryz.sizeOf9
  v9 := Tryz.zeroValue9
  t21 := Tryz.underlying21
  a21 := Tryz.isAgg21
  z21 := Tryz.sizeOf21
  v21 := Tryz.zeroValue21
  t31 := Tryz.underlying103
  a31 := Tryz.isAgg103
  z31 := Tryz.sizeOf103
  v31 := Tryz.zeroValue103
  t46 := Tryz.underlying140
  a46 := Tryz.isAgg140
  z46 := Tryz.sizeOf140
  v46 := Tryz.zeroValue140
  t51 := Tryz.underlying127
  a51 := Tryz.isAgg127
  z51 := Tryz.sizeOf127
  v51 := Tryz.zeroValue127
  t105 := Tryz.underlying170
  a105 := Tryz.isAgg170
  z105 := Tryz.sizeOf170
  v105 := Tryz.zeroValue170
  t119 := Tryz.underlying202
  a119 := Tryz.isAgg202
  z119 := Tryz.sizeOf202
  t138 := Tryz.underlying204
  a138 := Tryz.isAgg204
  z138 := Tryz.sizeOf204
  v138 := Tryz.zeroValue204
  t139 := Tryz.underlying205
  a139 := Tryz.isAgg205
  z139 := Tryz.sizeOf205
  v139 := Tryz.zeroValue205
  t146 := Tryz.underlying179
  a146 := Tryz.isAgg179
  z146 := Tryz.sizeOf179
  v146 := Tryz.zeroValue179
  g1 := by kernel_rfl
  g3 := by kernel_rfl
  g4 := by kernel_rfl }
theorem fPu : Tryz.laysPu_ren.f 14 = 151 := by kernel_rfl
theorem gPu0 : Tryz.laysPu_ren.g 0 = 3 := by kernel_rfl
theorem gPu1 : Tryz.laysPu_ren.g 1 = 4 := by kernel_rfl
theorem fSplit : Tryz.laysSplit_ren.f 146 = 114 := by kernel_rfl
theorem gSplit : Tryz.laysSplit_ren.g 1 = 1 := by kernel_rfl
theorem pu_calls (s : ByteArray) (hlim : s.size ≤ 281474976710656) (W : Nat → Prop) (w : World) (hW : Wide W w) :
    Calls Tryz.prog 151 #[.string s, .int .i64 16, .int .i64 32] w fun e w' => (∃ x y, e = .returned (.tuple #[.int .u64 x, y]) ∧ ((∃ n : Nat, q16 s.data.toList = .ok n ∧ x = n ∧ y = .nilIface) ∨ ((∀ n, q16 s.data.toList ≠ .ok n) ∧ ∃ T p, y = .iface T p))) ∧ Below w.heap.size w w' := by
  obtain ⟨_, _, ev, hv, hev⟩ := hW.tab (3, 0, fun v => v = .nilIface ∨ ∃ t p, v = .iface t p) (by simp [tabCells])
  obtain ⟨_, _, er, hr, her⟩ := hW.tab (4, 0, fun v => v = .nilIface ∨ ∃ t p, v = .iface t p) (by simp [tabCells])
  have h := pu16_pub Tryz.laysPu s hlim ev er w (by rw [gPu0]; exact hv) hev (by rw [gPu1]; exact hr) her
  rw [fPu] at h
  exact h
def wds (c : UInt8) (b : ByteArray) : List (List UInt8) := spl c b.data.toList
theorem split_calls (s : ByteArray) (c : UInt8) (hs : s.size < 4294967281) (W : Nat → Prop) (w : World) (hW : Wide W w) :
    Calls Tryz.prog 114 #[.string s, .string ⟨#[c]⟩] w fun e w' =>
      e = .returned (.slice (some ⟨w.heap.size, 0, none⟩) (wds c s).length (wds c s).length) ∧ ∃ T, w' = w.alloc (.cells ((wds c s).map fun x => Value.string (tx x)).toArray T) := by
  obtain ⟨_, _, ev, hv, m, rfl⟩ := hW.tab (1, 0, fun v => ∃ m, v = .int .i64 m) (by simp [tabCells])
  have h := Any.strings_Split Tryz.laysSplit (by kernel_rfl) s ⟨#[c]⟩ m w hs (by rw [gSplit]; exact hv) (Nat.le_refl 1)
  rw [fSplit] at h
  have hl := Lib.splitB_all ⟨#[c]⟩ (Nat.le_refl 1) 0 _ s rfl
  rw [splitB_spl] at hl h
  rw [List.length_map] at hl
  refine h.mono fun e w' ⟨he, hw⟩ => ⟨?_, Tryz.laysSplit_ren.t 9, ?_⟩
  · rw [he]
    have : Lib.countB s ⟨#[c]⟩ + 1 = (wds c s).length := hl.symm
    rw [← this]
    try rfl
  · rw [hw, List.map_map]
    try rfl
/-! ## strings.Split -/
theorem fn114 : FnOk Tryz.prog 114 Tryz.f114 (bodyOf Tryz.f114) := ⟨Tryz.func114, rfl, by rfl⟩
def s114 (c : UInt8) : Spec := fun args H => match args with
  | [.c (.s t), .c (.s e)] => some (.c (.sl H.length (.l 0) (.x fun _ => (wds c (t ())).length)), H ++ [some ⟨true, 1, .sx fun _ => (wds c (t ())).map tx⟩], [fun _ => e () = (⟨#[c]⟩ : ByteArray) ∧ (t ()).size < 4294967281])
  | _ => none
theorem ok114 (c : UInt8) : Ok Tryz.prog 114 (s114 c) := by
  intro args H v H' o hs ho μ W w vs hW hH hr
  unfold s114 at hs
  split at hs
  · rename_i t e
    cases hs
    match vs, hr with
    | [x, y], hr =>
      obtain ⟨hx, hy, _⟩ := hr
      obtain ⟨he, hsz⟩ := ho.one
      have hx : x = .string (t ()) := hx
      have hy : y = .string (e ()) := hy
      rw [he] at hy
      subst hx hy
      have k := split_calls (t ()) c hsz W w hW
      refine .inl ⟨callFunc_run fn114 _ _, k.mono ?_⟩
      rintro e' w' ⟨rfl, T, rfl⟩
      have hp := hH.push (B := ⟨true, 1, .sx fun _ => (wds c (t ())).map tx⟩) (cells := ((wds c (t ())).map fun x => Value.string (tx x)).toArray) (e := T) (hW.new _ (Nat.le_refl _)) (fun ν ha j x hx => by
        obtain ⟨q, hq, rfl⟩ := Option.map_eq_some_iff.1 hx
        rw [List.getElem?_map, Option.map_eq_some_iff] at hq
        obtain ⟨u, hu, rfl⟩ := hq
        refine ⟨.string (tx u), ?_, rfl⟩
        simp [hu]) (wds c (t ())).length (by simp)
      refine ⟨_, rfl, _, agree_upd _ _ _, by simp, hp, ⟨by simp, (wds c (t ())).length, ⟨w.heap.size, 0, none⟩, Nat.le_refl _, ?_, .inr ?_, rfl⟩, (alloc_fr _).mono fun k hk h => h.elim⟩
      · rw [upd_self]; right; show 0 + (wds c (t ())).length * 1 ≤ (wds c (t ())).length; omega
      · rw [upd_self]; rfl
  · cases hs
end Go.Proofs.YteifneielgnniaaGreatDoor.Sh
end
section
namespace Go.Proofs.YteifneielgnniaaGreatDoor.Sh
open Go Go.Proofs Go.RowKit Go.Shelf
theorem calls_of_ok {P : Program} {g : Nat} {fn : Func} {c : Code} (hf : FnOk P g fn c) {args : Array Value} {w : World} {Q : Value → World → Prop} (h : OkRun P g args w Q) : Calls P g args w fun e w' => ∃ v, e = .returned v ∧ Q v w' := by
  rcases h with ⟨_, h⟩ | ⟨v, w', h, _⟩
  · exact h
  · have := callFunc_run hf args w
    rw [h] at this
    cases this
theorem e149a : Extern.findNext Tryz.f149 = none := by rfl
theorem e149b : Extern.find Tryz.f149 = some Extern.MathFloatBits.float32frombits := by rfl
theorem ext149 (b : Int) (w : World) : (callFunc 149 #[.int .u32 b]).run Tryz.prog w = .ok (.value (.float .f32 b.toNat)) w := by
  rw [run_callFunc_extern Tryz.func149 (by rfl) (by rfl) e149a e149b]; rfl
/-- the text of a number that is read -/
theorem nt_calls (n : Nat) (hn : n < 4294967296) (W : Nat → Prop) (w : World) (hW : Wide W w) :
    Calls Tryz.prog 115 #[.float .f32 n] w fun e w' => e = .returned (.string (numT n)) ∧ Fr W w w' := by
  have h := ok115 [.c (.f .f32 fun _ => n)] [] _ _ _ rfl (fun q hq => by simp at hq; subst hq; exact hn) (fun _ => ⟨0, 0, 0, 0⟩) W w [.float .f32 n] hW (hrel_nil _ _ _) ⟨⟨_, rfl, .inl rfl⟩, trivial⟩
  refine (calls_of_ok fn115 h).mono ?_
  rintro e w' ⟨v, rfl, ν, _, _, _, hv, hf⟩
  exact ⟨by rw [show v = .string (numT n) from hv], hf⟩
theorem u32_wrap {n : Nat} (h : n < 4294967296) : IntKind.u32.wrap (n : Int) = n := wrapU32 (Int.natCast_nonneg _) (by omega)
theorem q16_ok {l : List UInt8} {n : Nat} (h : q16 l = .ok n) : l ≠ [] ∧ p16 0 l = .ok n ∧ n < 4294967296 := by
  unfold q16 at h
  split at h
  · cases h
  · rename_i hne
    exact ⟨hne, h, p16_lt l 0 n (by decide) h⟩
set_option maxHeartbeats 4000000 in
set_option maxRecDepth 100000 in
theorem rn_calls (t : ByteArray) (hlim : t.size ≤ 281474976710656) (W : Nat → Prop) (w : World) (hW : Wide W w) :
    Calls Tryz.prog 123 #[.string t] w fun e w' => e = .returned (.tuple #[.float .f32 (rn t.data.toList), .int .i64 (rnC t.data.toList)]) ∧ Fr W w w' := by
  have e151 : ∀ args w, (callFunc 151 args).run Tryz.prog w = .ok (.enter 151 args) w := enters_of Tryz.func151 (by kernel_rfl) rfl
  have e115 : ∀ args w, (callFunc 115 args).run Tryz.prog w = .ok (.enter 115 args) w := enters_of Tryz.func115 (by kernel_rfl) rfl
  have e149 := ext149
  have hpu := pu_calls t hlim W w hW
  have hgo : ∀ w1, Below w.heap.size w w1 → Fr W w w1 ∧ Wide W w1 := fun w1 hb => by
    have hf : Fr W w w1 := ⟨hb.os, hb.tape, hb.output, hb.size, fun k hk _ => hb.block k hk⟩
    exact ⟨hf, hW.step hf⟩
  by_cases hq : ∃ n, q16 t.data.toList = .ok n
  · obtain ⟨n, hn⟩ := hq
    obtain ⟨hne, hp, hlt⟩ := q16_ok hn
    have hwr := u32_wrap hlt
    have hpu : Calls Tryz.prog 151 #[.string t, .int .i64 16, .int .i64 32] w fun e w' => e = .returned (.tuple #[.int .u64 n, .nilIface]) ∧ Below w.heap.size w w' := hpu.mono fun e w' ⟨⟨x, y, he, h⟩, hb⟩ => by
      rcases h with ⟨m, h1, h2, h3⟩ | ⟨h1, _⟩
      · rw [hn] at h1; cases h1; subst h2 h3; exact ⟨he, hb⟩
      · exact absurd hn (h1 n)
    have hnt := fun w1 hw1 => nt_calls n hlt W w1 hw1
    by_cases ht : numT n = t
    · have hok := rnI_iff t ⟨n, hp, hlt, ht⟩
      obtain ⟨p1, p2, p3, p4⟩ := rnOk_p16 hok
      have hnv : n = pv 0 t.data.toList := by rw [p1] at hp; cases hp; rfl
      have r1 : rn t.data.toList = n := by unfold rn; rw [if_pos hok, hnv]
      have r2 : rnC t.data.toList = 0 := by unfold rnC; rw [if_pos hok]
      rw [r1, r2]
      clear hok p1 p2 p3 p4 hnv r1 r2 hp hne hn
      go_enter Tryz.func123, Tryz.ntmps123
      go_wp2_with (go_at_fn 151; refine hpu.mono ?_)
      rintro e w1 ⟨rfl, hb⟩
      obtain ⟨hf, hw1⟩ := hgo w1 hb
      go_wp2_with (go_at_fn 115; refine (hnt _ hw1).mono ?_)
      rintro e w2 ⟨rfl, hf2⟩
      go_wp2
      go_ret2
      exact ⟨rfl, hf.trans hf2⟩
    · have hok : ¬ rnOk t.data.toList = true := fun h => by
        obtain ⟨p1, p2, p3, p4⟩ := rnOk_p16 h
        rw [p1] at hp; cases hp; exact ht p3
      have ht' : ((numT n).toList == t.toList) = false := by
        rw [Lib.toList_data, Lib.toList_data]
        refine beq_eq_false_iff_ne.2 fun e => ht ?_
        rw [← tx_data (numT n), e, tx_data]
      have r1 : rn t.data.toList = 0 := by unfold rn; rw [if_neg hok]
      have r2 : rnC t.data.toList = 5 := by unfold rnC; rw [if_neg hok]
      rw [r1, r2]
      clear hok r1 r2 hp hne hn
      go_enter Tryz.func123, Tryz.ntmps123
      go_wp2_with (go_at_fn 151; refine hpu.mono ?_)
      rintro e w1 ⟨rfl, hb⟩
      obtain ⟨hf, hw1⟩ := hgo w1 hb
      go_wp2_with (go_at_fn 115; refine (hnt _ hw1).mono ?_)
      rintro e w2 ⟨rfl, hf2⟩
      go_wp2
      go_ret2
      exact ⟨rfl, hf.trans hf2⟩
  · have hok : ¬ rnOk t.data.toList = true := fun h => by
      obtain ⟨p1, p2, p3, p4⟩ := rnOk_p16 h
      refine hq ⟨pv 0 t.data.toList, ?_⟩
      unfold q16
      rw [if_neg (fun e => by rw [e] at p4; cases p4), p1]
    have r1 : rn t.data.toList = 0 := by unfold rn; rw [if_neg hok]
    have r2 : rnC t.data.toList = 5 := by unfold rnC; rw [if_neg hok]
    rw [r1, r2]
    have hpu : Calls Tryz.prog 151 #[.string t, .int .i64 16, .int .i64 32] w fun e w' => (∃ x T p, e = .returned (.tuple #[.int .u64 x, .iface T p])) ∧ Below w.heap.size w w' := hpu.mono fun e w' ⟨⟨x, y, he, h⟩, hb⟩ => by
      rcases h with ⟨m, h1, _, _⟩ | ⟨_, T, p, hy⟩
      · exact absurd ⟨m, h1⟩ hq
      · subst hy; exact ⟨⟨x, T, p, he⟩, hb⟩
    clear hok r1 r2 hq
    go_enter Tryz.func123, Tryz.ntmps123
    go_wp2_with (go_at_fn 151; refine hpu.mono ?_)
    rintro e w1 ⟨⟨x, T, p, rfl⟩, hb⟩
    obtain ⟨hf, hw1⟩ := hgo w1 hb
    go_wp2
    go_ret2
    exact ⟨rfl, hf⟩
theorem fn123 : FnOk Tryz.prog 123 Tryz.f123 (bodyOf Tryz.f123) := ⟨Tryz.func123, rfl, by rfl⟩
def s123 : Spec := fun args H => match args with
  | [.c (.s t)] => some (.t [.c (.f .f32 fun _ => rn (t ()).data.toList), .c (.i .i64 (.x fun _ => rnC (t ()).data.toList))], H, [fun _ => (t ()).size ≤ 281474976710656])
  | _ => none
theorem ok123 : Ok Tryz.prog 123 s123 := by
  intro args H v H' o hs ho μ W w vs hW hH hr
  unfold s123 at hs
  split at hs
  · rename_i t
    cases hs
    match vs, hr with
    | [x], hr =>
      obtain ⟨hx, _⟩ := hr
      have hx : x = .string (t ()) := hx
      subst hx
      have k := rn_calls (t ()) ho.one (fun k => w.heap.size ≤ k) w (hW.sub (fun k hk => hW.new k hk) fun k hk => hk)
      refine .inl ⟨callFunc_run fn123 _ _, k.mono ?_⟩
      rintro e w' ⟨rfl, hf⟩
      have hf' : Fr nowhere w w' := ⟨hf.os, hf.tape, hf.output, hf.size, fun k hk _ => hf.block k hk (by omega)⟩
      exact ⟨_, rfl, μ, agree.refl _ _, Nat.le_refl _, hH.quiet hf', ⟨_, rfl, ⟨_, rfl, .inl rfl⟩, rfl, trivial⟩, hf'.mono fun _ _ h => h.elim⟩
  · cases hs
end Go.Proofs.YteifneielgnniaaGreatDoor.Sh
end
section
namespace Go.Proofs.YteifneielgnniaaGreatDoor.Sh
open Go Go.Proofs
/-! ## the reference's reading of a number -/
def s149 : Spec := fun args H => match args with
  | [.c (.i .u32 e)] => some (.c (.f .f32 fun _ => e.val.toNat), H, [])
  | _ => none
theorem ok149 : Ok Tryz.prog 149 s149 := by
  intro args H v H' o hs ho μ W w vs hW hH hr
  unfold s149 at hs
  split at hs
  · rename_i e
    cases hs
    match vs, hr with
    | [x], hr =>
      obtain ⟨hx, _⟩ := hr
      have hx : x = .int .u32 e.val := hx
      subst hx
      exact .inr ⟨_, _, ext149 e.val w, μ, agree.refl _ _, Nat.le_refl _, hH, ⟨_, rfl, .inl rfl⟩, Fr.refl _ _⟩
  · cases hs
def rv (l : List UInt8) : Nat := if (l.length == 8 && l.all hok) = true then pv 0 l else 0
def bl (t : ByteArray) : List UInt8 := t.data.toList
theorem pv_snoc (c : UInt8) : ∀ (l : List UInt8) (acc : Nat), pv acc (l ++ [c]) = pv acc l * 16 + hx0 c
  | [], acc => rfl
  | d :: r, acc => pv_snoc c r (acc * 16 + hx0 d)
theorem take_snoc (l : List UInt8) {i : Nat} (h : i < l.length) : l.take (i + 1) = l.take i ++ [l.getD i 0] := by
  rw [List.take_add_one, List.getElem?_eq_getElem h]; simp [List.getD, h]
/-- digits read so far -/
def rd (t : ByteArray) (i : Nat) : Nat := pv 0 ((bl t).take i)
def okTo (t : ByteArray) (i : Nat) : Bool := ((bl t).take i).all hok
def cAt (t : ByteArray) (i : Nat) : UInt8 := (bl t).getD i 0
theorem rd_s {t : ByteArray} (h : t.size = 8) {i : Nat} (hi : i < 8) : rd t (i + 1) = rd t i * 16 + hx0 (cAt t i) := by
  have hl : (bl t).length = 8 := by unfold bl; rw [← h, ← Lib.size_eq]
  unfold rd cAt; rw [take_snoc _ (by omega), pv_snoc]
theorem ok_s {t : ByteArray} (h : t.size = 8) {i : Nat} (hi : i < 8) : okTo t (i + 1) = (okTo t i && hok (cAt t i)) := by
  have hl : (bl t).length = 8 := by unfold bl; rw [← h, ← Lib.size_eq]
  unfold okTo cAt; rw [take_snoc _ (by omega), List.all_append]; simp
theorem rd_lt {t : ByteArray} {i : Nat} (hi : i ≤ 8) (h : okTo t i = true) : rd t i < 16 ^ i := by
  have h1 := pv_lt _ h
  have h2 : ((bl t).take i).length ≤ i := by rw [List.length_take]; omega
  exact Nat.lt_of_lt_of_le h1 (Nat.pow_le_pow_right (by decide) h2)
theorem lt_lit {n m : Nat} (h : ltB ((n : Nat) : Int) ((m : Nat) : Int) = true) : n < m := by rw [ltB_iff] at h; omega
theorem ge_lit {n m : Nat} (h : ltB ((n : Nat) : Int) ((m : Nat) : Int) = false) : m ≤ n := by rw [ltB_no] at h; omega
theorem eq_lit {n m : Nat} (h : (((n : Nat) : Int) != ((m : Nat) : Int)) = false) : n = m := by rw [bne_eq_false_iff_eq] at h; omega
theorem ne_lit {n m : Nat} (h : (((n : Nat) : Int) != ((m : Nat) : Int)) = true) : ¬ n = m := by rw [bne_iff_ne] at h; omega
theorem int_beq (a b : Nat) : (((a : Nat) : Int) == ((b : Nat) : Int)) = (a == b) := by
  by_cases h : a = b
  · subst h; simp
  · rw [beq_eq_false_iff_ne.2 h, beq_eq_false_iff_ne.2 (by omega)]
theorem u32w {x : Int} {n : Nat} (h : x = n) (hn : n < 4294967296) : IntKind.u32.wrap x = n := by rw [h]; exact u32_wrap hn
theorem u8w {x : Int} (h0 : 0 ≤ x) (h1 : x < 256) : IntKind.u8.wrap x = x := by
  unfold IntKind.wrap IntKind.signed IntKind.bits
  simp
  omega
theorem rd_16 {t : ByteArray} {i : Nat} (hi : i < 8) (ho : okTo t i = true) : rd t i * 16 + 15 < 4294967296 := by
  have h := rd_lt (Nat.le_of_lt hi) ho
  have h2 : (16 : Nat) ^ i ≤ 16 ^ 7 := Nat.pow_le_pow_right (by decide) (by omega)
  have h3 : (16 : Nat) ^ 7 = 268435456 := by decide
  omega
theorem step_d {t : ByteArray} {i : Nat} (h8 : t.size = 8) (hi : i < 8) (ho : okTo t i = true) (h0 : (48 : Int) ≤ ((t.data.toList.getD i 0).toNat : Int)) (h1 : ((t.data.toList.getD i 0).toNat : Int) ≤ 57) :
    okTo t (i + 1) = true ∧ IntKind.u32.wrap (IntKind.u32.wrap (((rd t i : Nat) : Int) * 16) + IntKind.u32.wrap (IntKind.u8.wrap (((t.data.toList.getD i 0).toNat : Int) - 48))) = ((rd t (i + 1) : Nat) : Int) := by
  have hc : cAt t i = t.data.toList.getD i 0 := rfl
  have hk : hok (cAt t i) = true := by rw [hc]; unfold hok; exact decide_eq_true (.inl (by omega))
  have hx : hx0 (cAt t i) = (t.data.toList.getD i 0).toNat - 48 := by rw [hc]; unfold hx0; exact if_pos (by omega)
  have hb := rd_16 hi ho
  refine ⟨by rw [ok_s h8 hi, ho, hk]; rfl, ?_⟩
  have e1 : IntKind.u32.wrap (((rd t i : Nat) : Int) * 16) = ((rd t i * 16 : Nat) : Int) := u32w (by omega) (by omega)
  have e2 : IntKind.u32.wrap (((t.data.toList.getD i 0).toNat : Int) - 48) = (((t.data.toList.getD i 0).toNat - 48 : Nat) : Int) := u32w (by omega) (by omega)
  rw [rd_s h8 hi, hx, u8w (by omega) (by omega), e1, e2]
  exact u32w (by omega) (by omega)
theorem step_a {t : ByteArray} {i : Nat} (h8 : t.size = 8) (hi : i < 8) (ho : okTo t i = true) (h0 : (97 : Int) ≤ ((t.data.toList.getD i 0).toNat : Int)) (h1 : ((t.data.toList.getD i 0).toNat : Int) ≤ 102) :
    okTo t (i + 1) = true ∧ IntKind.u32.wrap (IntKind.u32.wrap (IntKind.u32.wrap (((rd t i : Nat) : Int) * 16) + IntKind.u32.wrap (IntKind.u8.wrap (((t.data.toList.getD i 0).toNat : Int) - 97))) + 10) = ((rd t (i + 1) : Nat) : Int) := by
  have hc : cAt t i = t.data.toList.getD i 0 := rfl
  have hk : hok (cAt t i) = true := by rw [hc]; unfold hok; exact decide_eq_true (.inr (by omega))
  have hx : hx0 (cAt t i) = (t.data.toList.getD i 0).toNat - 87 := by rw [hc]; unfold hx0; exact if_neg (by omega)
  have hb := rd_16 hi ho
  refine ⟨by rw [ok_s h8 hi, ho, hk]; rfl, ?_⟩
  have e1 : IntKind.u32.wrap (((rd t i : Nat) : Int) * 16) = ((rd t i * 16 : Nat) : Int) := u32w (by omega) (by omega)
  have e2 : IntKind.u32.wrap (((t.data.toList.getD i 0).toNat : Int) - 97) = (((t.data.toList.getD i 0).toNat - 97 : Nat) : Int) := u32w (by omega) (by omega)
  have e3 : IntKind.u32.wrap (((rd t i * 16 : Nat) : Int) + (((t.data.toList.getD i 0).toNat - 97 : Nat) : Int)) = ((rd t i * 16 + ((t.data.toList.getD i 0).toNat - 97) : Nat) : Int) := u32w (by omega) (by omega)
  rw [rd_s h8 hi, hx, u8w (by omega) (by omega), e1, e2, e3]
  exact u32w (by omega) (by omega)
theorem all_take {l : List UInt8} {p : UInt8 → Bool} (h : l.all p = true) (i : Nat) : (l.take i).all p = true := by
  rw [List.all_eq_true] at h ⊢
  exact fun x hx => h x (List.mem_of_mem_take hx)
theorem bad_c {t : ByteArray} {i : Nat} (h8 : t.size = 8) (hi : i < 8) (h : ¬ ((48 : Int) ≤ ((t.data.toList.getD i 0).toNat : Int) ∧ ((t.data.toList.getD i 0).toNat : Int) ≤ 57)) (h' : ¬ ((97 : Int) ≤ ((t.data.toList.getD i 0).toNat : Int) ∧ ((t.data.toList.getD i 0).toNat : Int) ≤ 102)) : (0 : Nat) = rv (bl t) ∧ false = rnOk (bl t) := by
  have hc : cAt t i = t.data.toList.getD i 0 := rfl
  have hk : hok (cAt t i) = false := by rw [hc]; unfold hok; exact decide_eq_false (by omega)
  have ha : (bl t).all hok = false := by
    cases e : (bl t).all hok with
    | false => rfl
    | true =>
      have := all_take e (i + 1)
      have e2 : okTo t (i + 1) = true := this
      rw [ok_s h8 hi, hk, Bool.and_false] at e2
      cases e2
  unfold rv rnOk
  rw [ha]; simp
theorem bl_len (t : ByteArray) : (bl t).length = t.size := by unfold bl; rw [← Lib.size_eq]
theorem no_8 {t : ByteArray} (h : ¬ t.size = 8) : (0 : Nat) = rv (bl t) ∧ false = rnOk (bl t) := by
  have : ((bl t).length == 8) = false := beq_eq_false_iff_ne.2 (by rw [bl_len]; exact h)
  unfold rv rnOk
  rw [this]; simp
theorem end_8 {t : ByteArray} (h : t.size = 8) (ho : okTo t 8 = true) : rd t 8 = rv (bl t) ∧ (bitsX (rd t 8) == rd t 8) = rnOk (bl t) ∧ rd t 8 < 4294967296 := by
  have hl : (bl t).length = 8 := by rw [bl_len, h]
  have ht : (bl t).take 8 = bl t := List.take_of_length_le (by omega)
  have hlt := rd_lt (Nat.le_refl 8) ho
  unfold okTo at ho
  rw [ht] at ho
  have e : rd t 8 = pv 0 (bl t) := by unfold rd; rw [ht]
  have h16 : (16 : Nat) ^ 8 = 4294967296 := by decide
  unfold rv rnOk
  rw [hl, ho, e]
  refine ⟨rfl, by simp, by omega⟩
theorem fn124 : FnOk Tryz.prog 124 Tryz.f124 (bodyOf Tryz.f124) := ⟨Tryz.func124, rfl, by rfl⟩
attribute [local irreducible] rv rnOk rd okTo cAt bitsX
def s124 : Spec := hspec fun args H => match args, H with
  | [.c (.s t)], [] => some (.t [.c (.f .f32 fun _ => rv (bl (t ()))), .c (.b (.x fun _ => rnOk (bl (t ()))))], [], [])
  | _, _ => none
def E124 : Env := fun g => envGetL [(149, ⟨true, s149, none⟩), (152, ⟨true, s152, none⟩)] g
theorem E124ok : EnvOk Tryz.prog E124 := envOk_cons ok149 (envOk_cons ok152 (envOk_nil _))
set_option maxRecDepth 100000 in
set_option maxHeartbeats 2000000 in
theorem ok124 : Ok Tryz.prog 124 (s124) := ok_of_wpaH (E := E124) mixed tts E124ok fn124 fun args H v H' o hs ho => by
  split at hs
  · rename_i t
    cases hs
    have hz : okTo (t ⟨⟩) 0 = true := by unfold okTo; rw [List.take_zero]; rfl
    have hz2 : ((rd (t ⟨⟩) 0 : Nat) : Int) = 0 := by unfold rd; rw [List.take_zero]; rfl
    refine ⟨_, HLe.refl _, ?_⟩
    cbv
    refine Br.mk (fun h8 => ?_) (fun h8 => ?_)
    · have hn : ¬ (t ⟨⟩).size = 8 := ne_lit (m := 8) h8
      have k1 := (no_8 hn).1
      have k2 := (no_8 hn).2
      cbv
      repeat' (refine Ob.mk ?_ ?_; (focus (first | exact k1 | exact k2)); cbv)
    · have h8' : (t ⟨⟩).size = 8 := eq_lit (m := 8) h8
      clear h8
      cbv
      refine loop_rule (α := Unit → Nat) (c := ⟨tt, E124, 0⟩)
          (fun i => fr 52 [(0, .c (.s t)), (4, .c (.i .u32 (.x fun _ => (rd (t ()) (i ()) : Int)))), (5, .c (.i .i64 (.x fun _ => (i () : Int))))]) (fun i => [])
          (fun i => i () ≤ 8 ∧ okTo (t ()) (i ()) = true) (fun i => 8 - i ()) (fun _ => 9) ?_ ?_
      · refine .mk (fun _ => 0) ⟨Nat.zero_le _, hz⟩ (by dsimp only; omega) ?_
        cbv
        repeat' (refine Ob.mk ?_ ?_; rotate_left)
        all_goals first | exact hz2.symm | exact rfl | trivial
      · intro i hi
        cbv
        refine Br.mk (fun h1 => ?_) (fun h1 => ?_)
        · have h1n : i ⟨⟩ < 8 := lt_lit (m := 8) h1
          have hidx : (0 : Int) ≤ ((i ⟨⟩ : Nat) : Int) ∧ ((i ⟨⟩ : Nat) : Int) < (((t ⟨⟩).size : Nat) : Int) := ⟨Int.natCast_nonneg _, by rw [h8']; omega⟩
          clear h1
          have hd := step_d h8' h1n hi.2
          have ha := step_a h8' h1n hi.2
          have hb := bad_c h8' h1n
          have hw : IntKind.wrap .i64 (((i ⟨⟩ : Nat) : Int) + 1) = ((i ⟨⟩ + 1 : Nat) : Int) := wrap64_nat (by omega)
          cbv
          repeat' first
            | (refine Br.mk (fun h => ?_) (fun h => ?_) <;> cbv)
            | (refine Ob.mk ?_ ?_; rotate_left; cbv)
            | (refine Next.mk (fun _ => i () + 1) ?_ ?_ ?_)
          all_goals (try simp only [Unit.unit, BE.val, IE.val, NE.val, ltB_iff, ltB_no, leB_iff, leB_no, Int.toNat_natCast] at *)
          all_goals first | exact hw | exact hidx | omega | exact (hd (by assumption) (by assumption)).2 | exact (ha (by assumption) (by assumption)).2 | exact ⟨by omega, (hd (by assumption) (by assumption)).1⟩ | exact ⟨by omega, (ha (by assumption) (by assumption)).1⟩ | exact (hb (by omega) (by omega)).1 | exact (hb (by omega) (by omega)).2 | trace_state
        · have h1n : i ⟨⟩ = 8 := Nat.le_antisymm hi.1 (ge_lit (m := 8) h1)
          clear h1
          have k0 : okTo (t ⟨⟩) 8 = true := by rw [← h1n]; exact hi.2
          have k1 := (end_8 h8' k0).1
          have k2 : (((bitsX (rd (t ⟨⟩) 8) : Nat) : Int) == ((rd (t ⟨⟩) 8 : Nat) : Int)) = rnOk (bl (t ⟨⟩)) := by rw [int_beq]; exact (end_8 h8' k0).2.1
          have k3 := (end_8 h8' k0).2.2
          cbv
          repeat' first
            | (refine Br.mk (fun h => ?_) (fun h => ?_) <;> cbv)
            | (refine Ob.mk ?_ ?_; rotate_left; cbv)
          all_goals (try simp only [Unit.unit, BE.val, IE.val, NE.val, ltB_iff, ltB_no, leB_iff, leB_no, Int.toNat_natCast, h1n] at *)
          all_goals first | exact k1 | exact k2 | exact k3 | trace_state
  · cases hs
end Go.Proofs.YteifneielgnniaaGreatDoor.Sh
end
section
namespace Go.Proofs.YteifneielgnniaaGreatDoor.Sh
open Go Go.Proofs
/-! ## spec.ReadNumber, the marks -/
theorem fn86 : FnOk Tryz.prog 86 Tryz.f86 (bodyOf Tryz.f86) := ⟨Tryz.func86, rfl, by rfl⟩
theorem rn_t {l : List UInt8} (h : rnOk l = true) : rv l = rn l ∧ 0 = rnC l := by
  have h2 := h
  unfold rnOk at h2
  simp only [Bool.and_eq_true] at h2
  unfold rv rn rnC
  rw [h, h2.1.1, h2.1.2]
  exact ⟨rfl, rfl⟩
theorem rn_f {l : List UInt8} (h : rnOk l = false) : 0 = rn l ∧ 5 = rnC l := by
  unfold rn rnC
  rw [h]
  exact ⟨rfl, rfl⟩
attribute [local irreducible] rv rnOk rn rnC
def s86 : Spec := hspec fun args H => match args, H with
  | [.c (.s t)], [] => some (.t [.c (.f .f32 fun _ => rn (bl (t ()))), .c (.i .i64 (.x fun _ => rnC (bl (t ()))))], [], [])
  | _, _ => none
def E86 : Env := fun g => envGetL [(124, ⟨true, s124, none⟩)] g
theorem E86ok : EnvOk Tryz.prog E86 := envOk_cons ok124 (envOk_nil _)
set_option maxRecDepth 100000 in
set_option maxHeartbeats 2000000 in
theorem ok86 : Ok Tryz.prog 86 (s86) := ok_of_wpaH (E := E86) mixed tts E86ok fn86 fun args H v H' o hs ho => by
  split at hs
  · rename_i t
    cases hs
    refine ⟨_, HLe.refl _, ?_⟩
    cbv
    rcases bool_ft (rnOk (bl (t ⟨⟩))) with h | h
    · have k1 := (rn_f h).1
      have k2 := (rn_f h).2
      refine Br.t (nft h) ?_
      cbv
      repeat' (refine Ob.mk ?_ ?_; (focus (first | exact k1 | exact k2)); cbv)
    · have k1 := (rn_t h).1
      have k2 := (rn_t h).2
      refine Br.f (ntf h) ?_
      cbv
      repeat' (refine Ob.mk ?_ ?_; (focus (first | exact k1 | exact k2)); cbv)
  · cases hs
end Go.Proofs.YteifneielgnniaaGreatDoor.Sh
end
section
namespace Go.Proofs.YteifneielgnniaaGreatDoor.Sh
open Go Go.Proofs
/-! ## spec.l01Split -/
abbrev Gh := Nat × Nat × List (List UInt8)
def wordAt (t : ByteArray) (f i : Nat) : List UInt8 := ((bl t).drop f).take (i - f)
def JS (c : UInt8) (t : ByteArray) (g : Gh) : Prop := g.2.1 ≤ g.1 ∧ g.1 ≤ t.size ∧ g.2.2.length ≤ g.1 ∧ g.2.2 ++ splA c (wordAt t g.2.1 g.1) ((bl t).drop g.1) = wds c t
theorem js_0 (c : UInt8) (t : ByteArray) : JS c t (0, 0, []) := ⟨Nat.le_refl _, Nat.zero_le _, Nat.le_refl _, by simp [wordAt, wds, spl, bl]⟩
theorem js_drop {t : ByteArray} {i : Nat} (hi : i < t.size) : (bl t).drop i = (bl t).getD i 0 :: (bl t).drop (i + 1) := by
  have hl := bl_len t
  rw [List.drop_eq_getElem_cons (by omega)]
  simp [List.getD, List.getElem?_eq_getElem (show i < (bl t).length by omega)]
theorem js_ne {c : UInt8} {t : ByteArray} {g : Gh} (h : JS c t g) (hi : g.1 < t.size) (hc : ¬ (bl t).getD g.1 0 = c) : JS c t (g.1 + 1, g.2.1, g.2.2) := by
  obtain ⟨h1, h2, h3, h4⟩ := h
  refine ⟨by simp only; omega, by simp only; omega, by simp only; omega, ?_⟩
  rw [js_drop hi, splA_ne hc] at h4
  rw [← h4]
  have : wordAt t g.2.1 (g.1 + 1) = wordAt t g.2.1 g.1 ++ [(bl t).getD g.1 0] := by
    unfold wordAt
    have hl := bl_len t
    rw [show g.1 + 1 - g.2.1 = (g.1 - g.2.1) + 1 by omega, take_snoc _ (by rw [List.length_drop]; omega)]
    congr 2
    simp [List.getD, List.getElem?_drop, show g.2.1 + (g.1 - g.2.1) = g.1 by omega]
  simp only [this]
theorem js_eq {c : UInt8} {t : ByteArray} {g : Gh} (h : JS c t g) (hi : g.1 < t.size) (hc : (bl t).getD g.1 0 = c) : JS c t (g.1 + 1, g.1 + 1, g.2.2 ++ [wordAt t g.2.1 g.1]) := by
  obtain ⟨h1, h2, h3, h4⟩ := h
  refine ⟨by simp only; omega, by simp only; omega, by simp only [List.length_append, List.length_singleton]; omega, ?_⟩
  rw [js_drop hi, splA_eq hc] at h4
  rw [← h4]
  have : wordAt t (g.1 + 1) (g.1 + 1) = [] := by unfold wordAt; simp
  simp [this]
theorem js_end {c : UInt8} {t : ByteArray} {g : Gh} (h : JS c t g) (hi : g.1 = t.size) : g.2.2 ++ [wordAt t g.2.1 t.size] = wds c t := by
  obtain ⟨h1, h2, h3, h4⟩ := h
  rw [← h4, hi, List.drop_eq_nil_of_le (by rw [bl_len]; exact Nat.le_refl _)]
  rfl
theorem ext_word (t : ByteArray) {f i : Nat} (h : i ≤ t.size) : t.extract f i = tx (wordAt t f i) := by
  rw [← tx_data (t.extract f i)]
  congr 1
  rw [Lib.extract_data]
  rfl
end Go.Proofs.YteifneielgnniaaGreatDoor.Sh
end
section
namespace Go.Proofs.YteifneielgnniaaGreatDoor.Sh
open Go Go.Proofs
theorem fn85 : FnOk Tryz.prog 85 Tryz.f85 (bodyOf Tryz.f85) := ⟨Tryz.func85, rfl, by rfl⟩
theorem js_bd {c : UInt8} {t : ByteArray} {g : Gh} (h : JS c t g) : g.2.1 ≤ g.1 ∧ g.1 ≤ t.size ∧ g.2.2.length ≤ g.1 := ⟨h.1, h.2.1, h.2.2.1⟩
attribute [local irreducible] wds tx wordAt JS
theorem u8_beq (x c : UInt8) : (((x.toNat : Nat) : Int) == ((c.toNat : Nat) : Int)) = true ↔ x = c := by
  rw [beq_iff_eq]
  constructor
  · intro h; exact UInt8.toNat_inj.1 (by omega)
  · intro h; rw [h]
def s85 (c : UInt8) : Spec := hspec fun args H => match args, H with
  | [.c (.s t), .c (.i .u8 (.x k))], [] => some (.c (.sl 0 (.l 0) (.x fun _ => (wds c (t ())).length)), [some ⟨true, 1, .sx fun _ => (wds c (t ())).map tx⟩], [fun _ => k () = (c.toNat : Int) ∧ (t ()).size ≤ 1048576])
  | _, _ => none
set_option maxRecDepth 100000 in
set_option maxHeartbeats 4000000 in
theorem ok85 (c : UInt8) : Ok Tryz.prog 85 (s85 c) := ok_of_wpaH (E := envGetL []) mixed tts (envOk_nil _) fn85 fun args H v H' o hs ho => by
  split at hs
  · rename_i t k
    cases hs
    have hk := ho.one.1
    have hsz := ho.one.2
    have h0 := js_0 c (t ⟨⟩)
    refine ⟨_, HLe.refl _, ?_⟩
    cbv
    refine loop_rule (α := Unit → Gh) (c := ⟨tt, envGetL [], 0⟩)
        (fun g => fr 35 [(0, .c (.s t)), (1, .c (.i .u8 (.x k))), (5, .c (.sl 0 (.l 0) (.x fun _ => (g ()).2.2.length))), (6, .c (.i .i64 (.x fun _ => ((g ()).2.1 : Int)))), (7, .c (.i .i64 (.x fun _ => ((g ()).1 : Int))))])
        (fun g => [some ⟨true, 1, .sx fun _ => (g ()).2.2.map tx⟩])
        (fun g => JS c (t ()) (g ())) (fun g => (t ()).size - (g ()).1) (fun _ => (t ()).size + 1) ?_ ?_
    · refine .mk (fun _ => (0, 0, [])) h0 (by dsimp only; omega) ?_
      cbv
      repeat' (refine Ob.mk ?_ ?_; rotate_left)
      all_goals first | exact rfl | trivial
    · intro g hg
      have q : (g ⟨⟩).2.1 ≤ (g ⟨⟩).1 ∧ (g ⟨⟩).1 ≤ (t ⟨⟩).size ∧ (g ⟨⟩).2.2.length ≤ (g ⟨⟩).1 := js_bd hg
      have q1 := q.1
      have q2 := q.2.1
      have q3 := q.2.2
      have hb1 : (g ⟨⟩).2.2.length + 1 ≤ 9223372036854775807 := by omega
      have hb2 : ((g ⟨⟩).2.2.length + 1) * 16 ≤ 140737488355328 := by omega
      have hb3 : ((g ⟨⟩).2.2.map tx).length = (g ⟨⟩).2.2.length * 1 := by rw [List.length_map, Nat.mul_one]
      have hw : IntKind.wrap .i64 (((g ⟨⟩).1 : Int) + 1) = (((g ⟨⟩).1 + 1 : Nat) : Int) := wrap64_nat (by omega)
      cbv
      refine Br.mk (fun h1 => ?_) (fun h1 => ?_)
      · have h1n : (g ⟨⟩).1 < (t ⟨⟩).size := lt_lit h1
        have hidx : (0 : Int) ≤ (((g ⟨⟩).1 : Nat) : Int) ∧ (((g ⟨⟩).1 : Nat) : Int) < (((t ⟨⟩).size : Nat) : Int) := ⟨Int.natCast_nonneg _, Int.ofNat_lt.2 h1n⟩
        have hm : (t ⟨⟩).size - ((g ⟨⟩).1 + 1) < (t ⟨⟩).size - (g ⟨⟩).1 := by omega
        clear h1
        cbv
        refine Ob.mk hidx ?_
        cbv
        refine Br.mk (fun h => ?_) (fun h => ?_)
        · have hc : (bl (t ⟨⟩)).getD (g ⟨⟩).1 0 = c := by
            have h' : (((((bl (t ⟨⟩)).getD (g ⟨⟩).1 0).toNat : Nat) : Int) == k ⟨⟩) = true := h
            rw [hk] at h'
            exact (u8_beq _ c).1 h'
          have hj := js_eq hg h1n hc
          have hl : (g ⟨⟩).2.2.map tx ++ [(t ⟨⟩).extract (g ⟨⟩).2.1 (g ⟨⟩).1] = ((g ⟨⟩).2.2 ++ [wordAt (t ⟨⟩) (g ⟨⟩).2.1 (g ⟨⟩).1]).map tx := by
            rw [List.map_append, ext_word _ q2]; rfl
          have hln : (g ⟨⟩).2.2.length + 1 = ((g ⟨⟩).2.2 ++ [wordAt (t ⟨⟩) (g ⟨⟩).2.1 (g ⟨⟩).1]).length := by simp
          have hb4 : (0 : Int) ≤ (((g ⟨⟩).2.1 : Nat) : Int) ∧ (((g ⟨⟩).2.1 : Nat) : Int) ≤ (((g ⟨⟩).1 : Nat) : Int) ∧ (((g ⟨⟩).1 : Nat) : Int) ≤ (((t ⟨⟩).size : Nat) : Int) := ⟨Int.natCast_nonneg _, Int.ofNat_le.2 q1, Int.ofNat_le.2 q2⟩
          clear h
          cbv
          repeat' first
            | (refine Ob.mk ?_ ?_; rotate_left; cbv)
            | (refine Next.ren [2] (fun _ => ((g ()).1 + 1, (g ()).1 + 1, (g ()).2.2 ++ [wordAt (t ()) (g ()).2.1 (g ()).1])) ?_ ?_ ?_)
          all_goals first | exact hj | exact hm | exact hl | exact hw | exact hln | exact hb4 | exact hb3 | exact hb2 | exact hb1 | exact rfl | trivial
        · have hc : ¬ (bl (t ⟨⟩)).getD (g ⟨⟩).1 0 = c := fun e => by
            have := (u8_beq _ c).2 e
            have h' : (((((bl (t ⟨⟩)).getD (g ⟨⟩).1 0).toNat : Nat) : Int) == k ⟨⟩) = false := h
            rw [hk] at h'
            exact absurd (this.symm.trans h') (by decide)
          have hj := js_ne hg h1n hc
          clear h
          cbv
          repeat' first
            | (refine Ob.mk ?_ ?_; rotate_left; cbv)
            | (refine Next.mk (fun _ => ((g ()).1 + 1, (g ()).2.1, (g ()).2.2)) ?_ ?_ ?_)
          all_goals first | exact hj | exact hm | exact hw | exact rfl | trivial
      · have h1n : (g ⟨⟩).1 = (t ⟨⟩).size := Nat.le_antisymm q2 (ge_lit h1)
        have hj := js_end hg h1n
        have hl : (g ⟨⟩).2.2.map tx ++ [(t ⟨⟩).extract (g ⟨⟩).2.1 (t ⟨⟩).size] = (wds c (t ⟨⟩)).map tx := by
          rw [← hj, List.map_append, ext_word _ (Nat.le_refl _)]; rfl
        have hln : (g ⟨⟩).2.2.length + 1 = (wds c (t ⟨⟩)).length := by rw [← hj]; simp
        have hb4 : (0 : Int) ≤ (((g ⟨⟩).2.1 : Nat) : Int) ∧ (((g ⟨⟩).2.1 : Nat) : Int) ≤ (((t ⟨⟩).size : Nat) : Int) ∧ (((t ⟨⟩).size : Nat) : Int) ≤ (((t ⟨⟩).size : Nat) : Int) := ⟨Int.natCast_nonneg _, Int.ofNat_le.2 (by omega), Int.le_refl _⟩
        clear h1
        cbv
        repeat' first
          | (refine Ob.mk ?_ ?_; rotate_left; cbv)
        all_goals first | exact hl | exact hln | exact hb4 | exact hb3 | exact hb2 | exact hb1 | exact rfl | trivial | trace_state
  · cases hs
end Go.Proofs.YteifneielgnniaaGreatDoor.Sh
end
section
namespace Go.Proofs.YteifneielgnniaaGreatDoor.Sh
open Go Go.Proofs
/-! ## impl.readNumbers -/
def nrOk (m : Nat) (t : ByteArray) : Bool := decide (t.size + 1 = 9 * m) && (wds 32 t).all rnOk
def wAt (t : ByteArray) (i : Nat) : List UInt8 := (wds 32 t).getD i []
theorem getD_map {α β : Type} (f : α → β) (l : List α) (i : Nat) (d : α) (e : β) (h : f d = e) : (l.map f).getD i e = f (l.getD i d) := by
  simp only [List.getD, List.getElem?_map]
  cases l[i]? with
  | none => exact h.symm
  | some x => rfl
theorem tx_e : tx [] = ByteArray.empty := rfl
theorem bl_at (t : ByteArray) (i : Nat) : bl (((wds 32 t).map tx).getD i ByteArray.empty) = wAt t i := by
  rw [getD_map tx _ i [] _ tx_e]; rfl
theorem size_at (t : ByteArray) (i : Nat) (h : t.size ≤ 1048576) : (((wds 32 t).map tx).getD i ByteArray.empty).size ≤ 281474976710656 := by
  rw [← bl_len, bl_at]
  unfold wAt
  have h1 := splA_tot 32 (bl t) []
  have key : ∀ (ws : List (List UInt8)) (i : Nat), (ws.getD i []).length ≤ sumL ws := by
    intro ws
    induction ws with
    | nil => intro i; simp
    | cons w ws ih =>
      intro i
      cases i with
      | zero => simp [sumL]; omega
      | succ i => have := ih i; simp only [List.getD_cons_succ, sumL]; omega
  have h2 := key (wds 32 t) i
  have h3 : sumL (wds 32 t) = t.size + 1 := by
    show sumL (splA 32 [] (bl t)) = _
    rw [h1, bl_len]; simp
  omega
theorem nr_num {m : Nat} {t : ByteArray} (h : nrOk m t = true) : (wds 32 t).length = m := by
  unfold nrOk at h
  simp only [Bool.and_eq_true, decide_eq_true_eq] at h
  refine spl_num (k := 8) (fun w hw => ?_) (by rw [show t.data.toList.length = t.size from bl_len t]; exact h.1)
  have := List.all_eq_true.1 h.2 w hw
  exact (rnOk_p16 (t := tx w) this).2.2.2
def goodTo (t : ByteArray) (i : Nat) : Bool := ((wds 32 t).take i).all rnOk
theorem good_0 (t : ByteArray) : goodTo t 0 = true := by unfold goodTo; rw [List.take_zero]; rfl
theorem take_s {l : List (List UInt8)} {i : Nat} (h : i < l.length) : l.take (i + 1) = l.take i ++ [l.getD i []] := by
  rw [List.take_add_one, List.getElem?_eq_getElem h]; simp [List.getD, h]
theorem good_s {t : ByteArray} {i : Nat} (hi : i < (wds 32 t).length) : goodTo t (i + 1) = (goodTo t i && rnOk (wAt t i)) := by
  unfold goodTo wAt; rw [take_s hi, List.all_append]; simp
theorem good_all {t : ByteArray} {i : Nat} (hi : (wds 32 t).length ≤ i) (h : goodTo t i = true) : (wds 32 t).all rnOk = true := by
  unfold goodTo at h; rw [List.take_of_length_le hi] at h; exact h
theorem all_at {t : ByteArray} {i : Nat} (hi : i < (wds 32 t).length) (h : (wds 32 t).all rnOk = true) : rnOk (wAt t i) = true := by
  have := List.all_eq_true.1 h ((wds 32 t)[i]) (List.getElem_mem hi)
  unfold wAt
  simpa [List.getD, List.getElem?_eq_getElem hi] using this
/-- the numbers so far -/
def numsTo (t : ByteArray) (i : Nat) : List Nat := ((wds 32 t).take i).map rn
def numsOf (t : ByteArray) : List Nat := (wds 32 t).map rn
theorem nums_0 (t : ByteArray) : [] = numsTo t 0 := by unfold numsTo; rw [List.take_zero]; rfl
theorem nums_s {t : ByteArray} {i : Nat} (hi : i < (wds 32 t).length) : numsTo t i ++ [rn (wAt t i)] = numsTo t (i + 1) := by
  unfold numsTo wAt; rw [take_s hi, List.map_append]; rfl
theorem nums_len {t : ByteArray} {i : Nat} (hi : i ≤ (wds 32 t).length) : (numsTo t i).length = i := by
  unfold numsTo; rw [List.length_map, List.length_take]; omega
theorem nums_end (t : ByteArray) : numsTo t (wds 32 t).length = numsOf t := by
  unfold numsTo numsOf; rw [List.take_length]
theorem wds_le (c : UInt8) (t : ByteArray) : (wds c t).length ≤ t.size + 1 := by
  have := splA_le c (bl t) []
  rw [bl_len] at this; exact this
theorem fn81 : FnOk Tryz.prog 81 Tryz.f81 (bodyOf Tryz.f81) := ⟨Tryz.func81, rfl, by rfl⟩
theorem len_test {n m : Nat} {k : Int} (hk : k = (m : Int)) (hm : m ≤ 3) : ((((n : Nat) : Int) != IntKind.i64.wrap (IntKind.i64.wrap (9 * k) - 1)) = true ↔ ¬ n + 1 = 9 * m) := by
  have e1 : IntKind.i64.wrap (9 * (m : Int)) = 9 * (m : Int) := wrap64 (by omega) (by omega)
  have e2 : IntKind.i64.wrap (9 * (m : Int) - 1) = 9 * (m : Int) - 1 := wrap64 (by omega) (by omega)
  rw [hk, e1, e2, bne_iff_ne]
  omega
theorem nr_len {m : Nat} {t : ByteArray} (h : nrOk m t = true) : t.size + 1 = 9 * m ∧ (wds 32 t).all rnOk = true := by
  unfold nrOk at h
  simpa only [Bool.and_eq_true, decide_eq_true_eq] using h
theorem nr_no {m : Nat} {t : ByteArray} (h : nrOk m t = false) (hl : t.size + 1 = 9 * m) : (wds 32 t).all rnOk = false := by
  unfold nrOk at h
  rw [decide_eq_true hl, Bool.true_and] at h; exact h
theorem rnC_t {l : List UInt8} (h : rnOk l = true) : (rnC l != 0) = false := by unfold rnC; rw [h]; rfl
theorem rnC_f {l : List UInt8} (h : rnOk l = false) : (rnC l != 0) = true := by unfold rnC; rw [h]; rfl
attribute [local irreducible] wds tx rn rnC rnOk nrOk numsTo numsOf goodTo
def s81T (m : Nat) : Spec := hspec fun args H => match args, H with
  | [.c (.s t), .c (.i .i64 (.x k))], [] => some (.t [.c (.sl 0 (.l 0) (.x fun _ => m)), .c (.b (.l true))], [some ⟨true, 1, .fl fun _ => numsOf (t ())⟩], [fun _ => nrOk m (t ()) = true, fun _ => k () = (m : Int) ∧ (t ()).size ≤ 1048576 ∧ m ≤ 3])
  | _, _ => none
def E81 : Env := fun g => envGetL [(114, ⟨true, s114 32, none⟩), (123, ⟨true, s123, none⟩)] g
theorem E81ok : EnvOk Tryz.prog E81 := envOk_cons (ok114 32) (envOk_cons ok123 (envOk_nil _))
set_option maxRecDepth 100000 in
set_option maxHeartbeats 4000000 in
theorem ok81T (m : Nat) : Ok Tryz.prog 81 (s81T m) := ok_of_wpaH (E := E81) mixed tts E81ok fn81 fun args H v H' o hs ho => by
  split at hs
  · rename_i t k
    cases hs
    have hok : nrOk m (t ⟨⟩) = true := ho.two.1
    have hk : k ⟨⟩ = (m : Int) := ho.two.2.1
    have hsz : (t ⟨⟩).size ≤ 1048576 := ho.two.2.2.1
    have hm3 : m ≤ 3 := ho.two.2.2.2
    have hlt : ((((t ⟨⟩).size : Nat) : Int) != IntKind.i64.wrap (IntKind.i64.wrap (9 * k ⟨⟩) - 1)) = false := by
      cases e : ((((t ⟨⟩).size : Nat) : Int) != IntKind.i64.wrap (IntKind.i64.wrap (9 * k ⟨⟩) - 1)) with
      | false => rfl
      | true => exact absurd (nr_len hok).1 ((len_test hk hm3).1 e)
    have hall := (nr_len hok).2
    have hnum := nr_num hok
    have hwl := wds_le 32 (t ⟨⟩)
    have n0 := nums_0 (t ⟨⟩)
    have hsp : ({ data := #[32] } : ByteArray) = ({ data := #[32] } : ByteArray) ∧ (t ⟨⟩).size < 4294967281 := ⟨rfl, by omega⟩
    refine ⟨_, HLe.refl _, ?_⟩
    cbv
    refine Br.f hlt ?_
    cbv
    refine Ob.mk hsp ?_
    cbv
    refine loop_rule (α := Unit → Nat) (c := ⟨tt, E81, 0⟩)
        (fun i => fr 42 [(1, .c (.i .i64 (.x k))), (6, .c (.sl 0 (.l 0) (.x fun _ => i ()))), (19, .c (.sl 1 (.l 0) (.x fun _ => (wds 32 (t ())).length))), (20, .c (.i .i64 (.x fun _ => ((wds 32 (t ())).length : Int)))), (21, .c (.i .i64 (.x fun _ => (i () : Int))))])
        (fun i => [some ⟨true, 1, .fl fun _ => numsTo (t ()) (i ())⟩, some ⟨true, 1, .sx fun _ => (wds 32 (t ())).map tx⟩])
        (fun i => i () ≤ (wds 32 (t ())).length ∧ goodTo (t ()) (i ()) = true) (fun i => (wds 32 (t ())).length - i ()) (fun _ => (wds 32 (t ())).length + 1) ?_ ?_
    · refine .mk (fun _ => 0) ⟨Nat.zero_le _, good_0 _⟩ (by dsimp only; omega) ?_
      cbv
      repeat' (refine Ob.mk ?_ ?_; rotate_left)
      all_goals first | exact rfl | exact n0 | trivial
    · intro i hi
      have hi1 : i ⟨⟩ ≤ (wds 32 (t ⟨⟩)).length := hi.1
      have hi2 : goodTo (t ⟨⟩) (i ⟨⟩) = true := hi.2
      have hb1 : i ⟨⟩ + 1 ≤ 9223372036854775807 := by omega
      have hb2 : (i ⟨⟩ + 1) * 4 ≤ 140737488355328 := by omega
      have hb3 : (numsTo (t ⟨⟩) (i ⟨⟩)).length = i ⟨⟩ * 1 := by rw [nums_len hi1, Nat.mul_one]
      have hw : IntKind.wrap .i64 (((i ⟨⟩ : Nat) : Int) + 1) = ((i ⟨⟩ + 1 : Nat) : Int) := wrap64_nat (by omega)
      have hp : 0 + ((i ⟨⟩ : Nat) : Int).toNat * 1 = i ⟨⟩ := by rw [Int.toNat_natCast]; omega
      have hsa := size_at (t ⟨⟩) (0 + ((i ⟨⟩ : Nat) : Int).toNat * 1) hsz
      have hba : bl (((wds 32 (t ⟨⟩)).map tx).getD (0 + ((i ⟨⟩ : Nat) : Int).toNat * 1) ByteArray.empty) = wAt (t ⟨⟩) (i ⟨⟩) := by rw [bl_at, hp]
      cbv
      refine Br.mk (fun h1 => ?_) (fun h1 => ?_)
      · have h1n : i ⟨⟩ < (wds 32 (t ⟨⟩)).length := lt_lit h1
        have hgo := all_at h1n hall
        have hidx : (0 : Int) ≤ ((i ⟨⟩ : Nat) : Int) ∧ ((i ⟨⟩ : Nat) : Int) < (((wds 32 (t ⟨⟩)).length : Nat) : Int) := ⟨Int.natCast_nonneg _, Int.ofNat_lt.2 h1n⟩
        have hix : 0 + ((i ⟨⟩ : Nat) : Int).toNat * 1 < ((wds 32 (t ⟨⟩)).map tx).length := by rw [List.length_map, hp]; exact h1n
        have hm : (wds 32 (t ⟨⟩)).length - (i ⟨⟩ + 1) < (wds 32 (t ⟨⟩)).length - i ⟨⟩ := by omega
        have hon : (rnC (bl (((wds 32 (t ⟨⟩)).map tx).getD (0 + ((i ⟨⟩ : Nat) : Int).toNat * 1) ByteArray.empty)) != 0) = false := by rw [hba]; exact rnC_t hgo
        have hj : i ⟨⟩ + 1 ≤ (wds 32 (t ⟨⟩)).length ∧ goodTo (t ⟨⟩) (i ⟨⟩ + 1) = true := ⟨h1n, by rw [good_s h1n, hi2, hgo]; rfl⟩
        have hnl : numsTo (t ⟨⟩) (i ⟨⟩) ++ [rn (bl (((wds 32 (t ⟨⟩)).map tx).getD (0 + ((i ⟨⟩ : Nat) : Int).toNat * 1) ByteArray.empty))] = numsTo (t ⟨⟩) (i ⟨⟩ + 1) := by rw [hba]; exact nums_s h1n
        clear h1
        cbv
        repeat' first
          | (refine Ob.mk ?_ ?_; (focus (first | exact hidx | exact hix | exact hsa | exact hb3 | exact hb2 | exact hb1 | exact rfl)); cbv)
          | (refine Br.f hon ?_; cbv)
          | (refine Next.ren [3, 1] (fun _ => i () + 1) ?_ ?_ ?_)
        all_goals first | exact hj | exact hm | ((repeat' (refine Ob.mk ?_ ?_; (focus (first | exact hnl | exact hw | exact rfl)))); trivial) | trace_state
      · have h1n : i ⟨⟩ = (wds 32 (t ⟨⟩)).length := Nat.le_antisymm hi1 (ge_lit h1)
        have he1 : (((i ⟨⟩ : Nat) : Int) == k ⟨⟩) = true := by rw [h1n, hnum, hk]; exact beq_self_eq_true _
        have he2 : i ⟨⟩ = m := by rw [h1n, hnum]
        have he3 : numsTo (t ⟨⟩) (i ⟨⟩) = numsOf (t ⟨⟩) := by rw [h1n]; exact nums_end _
        clear h1
        cbv
        repeat' (refine Ob.mk ?_ ?_; (focus (first | exact he1 | exact he2 | exact he3 | exact rfl)); cbv)
  · cases hs
def s81F (m : Nat) : Spec := hspec fun args H => match args, H with
  | [.c (.s t), .c (.i .i64 (.x k))], [] => some (.t [.c .sn, .c (.b (.l false))], [], [fun _ => nrOk m (t ()) = false, fun _ => k () = (m : Int) ∧ (t ()).size ≤ 1048576 ∧ m ≤ 3])
  | _, _ => none
set_option maxRecDepth 100000 in
set_option maxHeartbeats 4000000 in
theorem ok81F (m : Nat) : Ok Tryz.prog 81 (s81F m) := ok_of_wpaH (E := E81) mixed tts E81ok fn81 fun args H v H' o hs ho => by
  split at hs
  · rename_i t k
    cases hs
    have hok : nrOk m (t ⟨⟩) = false := ho.two.1
    have hk : k ⟨⟩ = (m : Int) := ho.two.2.1
    have hsz : (t ⟨⟩).size ≤ 1048576 := ho.two.2.2.1
    have hm3 : m ≤ 3 := ho.two.2.2.2
    have hwl := wds_le 32 (t ⟨⟩)
    have n0 := nums_0 (t ⟨⟩)
    have hsp : ({ data := #[32] } : ByteArray) = ({ data := #[32] } : ByteArray) ∧ (t ⟨⟩).size < 4294967281 := ⟨rfl, by omega⟩
    refine ⟨_, HLe.refl _, ?_⟩
    cbv
    refine Br.mk (fun hlt => ?_) (fun hlt => ?_)
    · cbv
      repeat' (refine Ob.mk rfl ?_; cbv)
    · have hl9 : (t ⟨⟩).size + 1 = 9 * m := by
        rcases Nat.decEq ((t ⟨⟩).size + 1) (9 * m) with h | h
        · have := (len_test (n := (t ⟨⟩).size) hk hm3).2 h
          exact absurd (this.symm.trans hlt) (by decide)
        · exact h
      have hall := nr_no hok hl9
      clear hlt
      cbv
      refine Ob.mk hsp ?_
      cbv
      refine loop_rule (α := Unit → Nat) (c := ⟨tt, E81, 0⟩)
          (fun i => fr 42 [(1, .c (.i .i64 (.x k))), (6, .c (.sl 0 (.l 0) (.x fun _ => i ()))), (19, .c (.sl 1 (.l 0) (.x fun _ => (wds 32 (t ())).length))), (20, .c (.i .i64 (.x fun _ => ((wds 32 (t ())).length : Int)))), (21, .c (.i .i64 (.x fun _ => (i () : Int))))])
          (fun i => [some ⟨true, 1, .fl fun _ => numsTo (t ()) (i ())⟩, some ⟨true, 1, .sx fun _ => (wds 32 (t ())).map tx⟩])
          (fun i => i () ≤ (wds 32 (t ())).length ∧ goodTo (t ()) (i ()) = true) (fun i => (wds 32 (t ())).length - i ()) (fun _ => (wds 32 (t ())).length + 1) ?_ ?_
      · refine .mk (fun _ => 0) ⟨Nat.zero_le _, good_0 _⟩ (by dsimp only; omega) ?_
        cbv
        repeat' (refine Ob.mk ?_ ?_; rotate_left)
        all_goals first | exact rfl | exact n0 | trivial
      · intro i hi
        have hi1 : i ⟨⟩ ≤ (wds 32 (t ⟨⟩)).length := hi.1
        have hi2 : goodTo (t ⟨⟩) (i ⟨⟩) = true := hi.2
        have hb1 : i ⟨⟩ + 1 ≤ 9223372036854775807 := by omega
        have hb2 : (i ⟨⟩ + 1) * 4 ≤ 140737488355328 := by omega
        have hb3 : (numsTo (t ⟨⟩) (i ⟨⟩)).length = i ⟨⟩ * 1 := by rw [nums_len hi1, Nat.mul_one]
        have hw : IntKind.wrap .i64 (((i ⟨⟩ : Nat) : Int) + 1) = ((i ⟨⟩ + 1 : Nat) : Int) := wrap64_nat (by omega)
        have hp : 0 + ((i ⟨⟩ : Nat) : Int).toNat * 1 = i ⟨⟩ := by rw [Int.toNat_natCast]; omega
        have hsa := size_at (t ⟨⟩) (0 + ((i ⟨⟩ : Nat) : Int).toNat * 1) hsz
        have hba : bl (((wds 32 (t ⟨⟩)).map tx).getD (0 + ((i ⟨⟩ : Nat) : Int).toNat * 1) ByteArray.empty) = wAt (t ⟨⟩) (i ⟨⟩) := by rw [bl_at, hp]
        have h1n : i ⟨⟩ < (wds 32 (t ⟨⟩)).length := by
          rcases Nat.lt_or_ge (i ⟨⟩) (wds 32 (t ⟨⟩)).length with h | h
          · exact h
          · have := good_all h hi2
            rw [hall] at this; cases this
        have hlb : ltB ((i ⟨⟩ : Nat) : Int) (((wds 32 (t ⟨⟩)).length : Nat) : Int) = true := by rw [ltB_iff]; exact Int.ofNat_lt.2 h1n
        rcases bool_ft (rnOk (wAt (t ⟨⟩) (i ⟨⟩))) with hgo | hgo
        · have hidx : (0 : Int) ≤ ((i ⟨⟩ : Nat) : Int) ∧ ((i ⟨⟩ : Nat) : Int) < (((wds 32 (t ⟨⟩)).length : Nat) : Int) := ⟨Int.natCast_nonneg _, Int.ofNat_lt.2 h1n⟩
          have hix : 0 + ((i ⟨⟩ : Nat) : Int).toNat * 1 < ((wds 32 (t ⟨⟩)).map tx).length := by rw [List.length_map, hp]; exact h1n
          have hon : (rnC (bl (((wds 32 (t ⟨⟩)).map tx).getD (0 + ((i ⟨⟩ : Nat) : Int).toNat * 1) ByteArray.empty)) != 0) = true := by rw [hba]; exact rnC_f hgo
          cbv
          refine Br.t hlb ?_
          cbv
          repeat' first
            | (refine Ob.mk ?_ ?_; (focus (first | exact hidx | exact hix | exact hsa | exact rfl)); cbv)
            | (refine Br.t hon ?_; cbv)
        · have hidx : (0 : Int) ≤ ((i ⟨⟩ : Nat) : Int) ∧ ((i ⟨⟩ : Nat) : Int) < (((wds 32 (t ⟨⟩)).length : Nat) : Int) := ⟨Int.natCast_nonneg _, Int.ofNat_lt.2 h1n⟩
          have hix : 0 + ((i ⟨⟩ : Nat) : Int).toNat * 1 < ((wds 32 (t ⟨⟩)).map tx).length := by rw [List.length_map, hp]; exact h1n
          have hm : (wds 32 (t ⟨⟩)).length - (i ⟨⟩ + 1) < (wds 32 (t ⟨⟩)).length - i ⟨⟩ := by omega
          have hon : (rnC (bl (((wds 32 (t ⟨⟩)).map tx).getD (0 + ((i ⟨⟩ : Nat) : Int).toNat * 1) ByteArray.empty)) != 0) = false := by rw [hba]; exact rnC_t hgo
          have hj : i ⟨⟩ + 1 ≤ (wds 32 (t ⟨⟩)).length ∧ goodTo (t ⟨⟩) (i ⟨⟩ + 1) = true := ⟨h1n, by rw [good_s h1n, hi2, hgo]; rfl⟩
          have hnl : numsTo (t ⟨⟩) (i ⟨⟩) ++ [rn (bl (((wds 32 (t ⟨⟩)).map tx).getD (0 + ((i ⟨⟩ : Nat) : Int).toNat * 1) ByteArray.empty))] = numsTo (t ⟨⟩) (i ⟨⟩ + 1) := by rw [hba]; exact nums_s h1n
          cbv
          refine Br.t hlb ?_
          cbv
          repeat' first
            | (refine Ob.mk ?_ ?_; (focus (first | exact hidx | exact hix | exact hsa | exact hb3 | exact hb2 | exact hb1 | exact rfl)); cbv)
            | (refine Br.f hon ?_; cbv)
            | (refine Next.ren [3, 1] (fun _ => i () + 1) ?_ ?_ ?_)
          all_goals first | exact hj | exact hm | ((repeat' (refine Ob.mk ?_ ?_; (focus (first | exact hnl | exact hw | exact rfl)))); trivial) | trace_state
  · cases hs
end Go.Proofs.YteifneielgnniaaGreatDoor.Sh
end
section
namespace Go.Proofs.YteifneielgnniaaGreatDoor.Sh
open Go Go.Proofs
/-! ## the marks that are read -/
theorem fn87 : FnOk Tryz.prog 87 Tryz.f87 (bodyOf Tryz.f87) := ⟨Tryz.func87, rfl, by rfl⟩
theorem fn82 : FnOk Tryz.prog 82 Tryz.f82 (bodyOf Tryz.f82) := ⟨Tryz.func82, rfl, by rfl⟩
theorem fn27 : FnOk Tryz.prog 27 Tryz.f27 (bodyOf Tryz.f27) := ⟨Tryz.func27, rfl, by rfl⟩
theorem fn25 : FnOk Tryz.prog 25 Tryz.f25 (bodyOf Tryz.f25) := ⟨Tryz.func25, rfl, by rfl⟩
def sMk : Spec := hspec fun args H => match args, H with
  | [.c (.f .f32 a), .c (.f .f32 b)], [] => some (.c (.z .f32 (fun _ => a ()) (fun _ => b ())), [], [])
  | _, _ => none
set_option maxRecDepth 100000 in
theorem ok87 : Ok Tryz.prog 87 sMk := ok_of_wpaH (E := envGetL []) mixed tts (envOk_nil _) fn87 fun args H v H' o hs ho => by
  split at hs
  · rename_i a b
    cases hs
    refine ⟨_, HLe.refl _, ?_⟩
    cbv
    repeat' (refine Ob.mk rfl ?_; cbv)
  · cases hs
set_option maxRecDepth 100000 in
theorem ok82 : Ok Tryz.prog 82 sMk := ok_of_wpaH (E := envGetL []) mixed tts (envOk_nil _) fn82 fun args H v H' o hs ho => by
  split at hs
  · rename_i a b
    cases hs
    refine ⟨_, HLe.refl _, ?_⟩
    cbv
    repeat' (refine Ob.mk rfl ?_; cbv)
  · cases hs
def mkX (t : ByteArray) : Nat := if nrOk 2 t = true then rn (wAt t 0) else 0
def mkY (t : ByteArray) : Nat := if nrOk 2 t = true then rn (wAt t 1) else 0
def mkC (t : ByteArray) : Int := if nrOk 2 t = true then 0 else 5
theorem mk_t {t : ByteArray} (h : nrOk 2 t = true) : rn (wAt t 0) = mkX t ∧ rn (wAt t 1) = mkY t ∧ 0 = mkC t := by
  unfold mkX mkY mkC; rw [h]; exact ⟨rfl, rfl, rfl⟩
theorem mk_f {t : ByteArray} (h : nrOk 2 t = false) : 0 = mkX t ∧ 0 = mkY t ∧ 5 = mkC t := by
  unfold mkX mkY mkC; rw [h]; exact ⟨rfl, rfl, rfl⟩
theorem list2 {α : Type} {l : List α} {d : α} (h : l.length = 2) : l = [l.getD 0 d, l.getD 1 d] := by
  match l, h with
  | [a, b], _ => rfl
/-- two words that are numbers -/
theorem two_ok {t : ByteArray} : nrOk 2 t = true ↔ (wds 32 t).length = 2 ∧ rnOk (wAt t 0) = true ∧ rnOk (wAt t 1) = true := by
  constructor
  · intro h
    have hl := nr_num h
    have ha := (nr_len h).2
    exact ⟨hl, all_at (by omega) ha, all_at (by omega) ha⟩
  · rintro ⟨hl, h0, h1⟩
    have hw : wds 32 t = [wAt t 0, wAt t 1] := list2 hl
    have ha : (wds 32 t).all rnOk = true := by rw [hw]; simp [h0, h1]
    have h8 : ∀ w ∈ wds 32 t, w.length = 8 := fun w hw => (rnOk_p16 (t := tx w) (List.all_eq_true.1 ha w hw)).2.2.2
    have hs := sumL_all h8
    have ht : sumL (wds 32 t) = t.size + 1 := by
      show sumL (splA 32 [] (bl t)) = _
      rw [splA_tot, bl_len]; simp
    unfold nrOk
    rw [ha, Bool.and_true]
    exact decide_eq_true (by rw [ht, hl] at hs; omega)
attribute [local irreducible] wds tx rn rnC rnOk nrOk numsTo numsOf goodTo mkX mkY mkC wAt
def s27 : Spec := hspec fun args H => match args, H with
  | [.c (.s t)], [] => some (.t [.c (.z .f32 (fun _ => mkX (t ())) (fun _ => mkY (t ()))), .c (.i .i64 (.x fun _ => mkC (t ())))], [], [fun _ => (t ()).size ≤ 1048576])
  | _, _ => none
def E27 : Env := fun g => envGetL [(85, ⟨true, s85 32, none⟩), (86, ⟨true, s86, none⟩), (87, ⟨true, sMk, none⟩)] g
theorem E27ok : EnvOk Tryz.prog E27 := envOk_cons (ok85 32) (envOk_cons ok86 (envOk_cons ok87 (envOk_nil _)))
set_option maxRecDepth 100000 in
set_option maxHeartbeats 4000000 in
theorem ok27 : Ok Tryz.prog 27 s27 := ok_of_wpaH (E := E27) mixed tts E27ok fn27 fun args H v H' o hs ho => by
  split at hs
  · rename_i t
    cases hs
    have hsz : (t ⟨⟩).size ≤ 1048576 := ho.one
    have hsp : (32 : Int) = (((32 : UInt8).toNat : Nat) : Int) ∧ (t ⟨⟩).size ≤ 1048576 := ⟨rfl, hsz⟩
    have hc : rnC (bl (((wds 32 (t ⟨⟩)).map tx).getD 0 ByteArray.empty)) = rnC (wAt (t ⟨⟩) 0) := by rw [bl_at]
    have hd : rnC (bl (((wds 32 (t ⟨⟩)).map tx).getD 1 ByteArray.empty)) = rnC (wAt (t ⟨⟩) 1) := by rw [bl_at]
    rcases Nat.decEq (wds 32 (t ⟨⟩)).length 2 with hl | hl
    · have hno : nrOk 2 (t ⟨⟩) = false := by
        rcases bool_ft (nrOk 2 (t ⟨⟩)) with h | h
        · exact h
        · exact absurd (two_ok.1 h).1 hl
      have k1 := (mk_f hno).1
      have k2 := (mk_f hno).2.1
      have k3 := (mk_f hno).2.2
      have hb : ((((wds 32 (t ⟨⟩)).length : Nat) : Int) != 2) = true := bne_iff_ne.2 (by omega)
      refine ⟨_, HLe.refl _, ?_⟩
      cbv
      refine Ob.mk hsp ?_
      cbv
      refine Br.t hb ?_
      cbv
      repeat' (refine Ob.mk ?_ ?_; (focus (first | exact k1 | exact k2 | exact k3)); cbv)
    have hb : ((((wds 32 (t ⟨⟩)).length : Nat) : Int) != 2) = false := bne_eq_false_iff_eq.2 (by omega)
    have hi0 : (0 : Int) ≤ 0 ∧ (0 : Int) < (((wds 32 (t ⟨⟩)).length : Nat) : Int) := ⟨by omega, by omega⟩
    have hi1 : (0 : Int) ≤ 1 ∧ (1 : Int) < (((wds 32 (t ⟨⟩)).length : Nat) : Int) := ⟨by omega, by omega⟩
    have hj0 : 0 < ((wds 32 (t ⟨⟩)).map tx).length := by rw [List.length_map]; omega
    have hj1 : 1 < ((wds 32 (t ⟨⟩)).map tx).length := by rw [List.length_map]; omega
    rcases bool_ft (rnOk (wAt (t ⟨⟩) 0)) with h0 | h0
    · have hno : nrOk 2 (t ⟨⟩) = false := by
        rcases bool_ft (nrOk 2 (t ⟨⟩)) with h | h
        · exact h
        · have := (two_ok.1 h).2.1; rw [h0] at this; cases this
      have k1 := (mk_f hno).1
      have k2 := (mk_f hno).2.1
      have k3 := (mk_f hno).2.2
      have hb0 : (rnC (bl (((wds 32 (t ⟨⟩)).map tx).getD 0 ByteArray.empty)) != 0) = true := by rw [hc]; exact rnC_f h0
      refine ⟨_, HLe.refl _, ?_⟩
      cbv
      refine Ob.mk hsp ?_
      cbv
      refine Br.f hb ?_
      cbv
      repeat' first | (refine Ob.mk ?_ ?_; (focus (first | exact hi0 | exact hi1 | exact hj0 | exact hj1 | exact k1 | exact k2 | exact k3)); cbv) | (refine Br.t hb0 ?_; cbv)
    rcases bool_ft (rnOk (wAt (t ⟨⟩) 1)) with h1 | h1
    · have hno : nrOk 2 (t ⟨⟩) = false := by
        rcases bool_ft (nrOk 2 (t ⟨⟩)) with h | h
        · exact h
        · have := (two_ok.1 h).2.2; rw [h1] at this; cases this
      have k1 := (mk_f hno).1
      have k2 := (mk_f hno).2.1
      have k3 := (mk_f hno).2.2
      have hb0 : (rnC (bl (((wds 32 (t ⟨⟩)).map tx).getD 0 ByteArray.empty)) != 0) = false := by rw [hc]; exact rnC_t h0
      have hb1 : (rnC (bl (((wds 32 (t ⟨⟩)).map tx).getD 1 ByteArray.empty)) != 0) = true := by rw [hd]; exact rnC_f h1
      refine ⟨_, HLe.refl _, ?_⟩
      cbv
      refine Ob.mk hsp ?_
      cbv
      refine Br.f hb ?_
      cbv
      repeat' first | (refine Ob.mk ?_ ?_; (focus (first | exact hi0 | exact hi1 | exact hj0 | exact hj1 | exact k1 | exact k2 | exact k3)); cbv) | (refine Br.f hb0 ?_; cbv) | (refine Br.t hb1 ?_; cbv)
    have hok : nrOk 2 (t ⟨⟩) = true := two_ok.2 ⟨hl, h0, h1⟩
    have k1 : rn (bl (((wds 32 (t ⟨⟩)).map tx).getD 0 ByteArray.empty)) = mkX (t ⟨⟩) := by rw [bl_at]; exact (mk_t hok).1
    have k2 : rn (bl (((wds 32 (t ⟨⟩)).map tx).getD 1 ByteArray.empty)) = mkY (t ⟨⟩) := by rw [bl_at]; exact (mk_t hok).2.1
    have k3 := (mk_t hok).2.2
    have hb0 : (rnC (bl (((wds 32 (t ⟨⟩)).map tx).getD 0 ByteArray.empty)) != 0) = false := by rw [hc]; exact rnC_t h0
    have hb1 : (rnC (bl (((wds 32 (t ⟨⟩)).map tx).getD 1 ByteArray.empty)) != 0) = false := by rw [hd]; exact rnC_t h1
    refine ⟨_, HLe.refl _, ?_⟩
    cbv
    refine Ob.mk hsp ?_
    cbv
    refine Br.f hb ?_
    cbv
    repeat' first | (refine Ob.mk ?_ ?_; (focus (first | exact hi0 | exact hi1 | exact hj0 | exact hj1 | exact k1 | exact k2 | exact k3)); cbv) | (refine Br.f hb0 ?_; cbv) | (refine Br.f hb1 ?_; cbv)
  · cases hs
theorem nums_at {t : ByteArray} {i : Nat} (h : i < (wds 32 t).length) : (numsOf t).getD i 0 = rn (wAt t i) := by
  unfold numsOf wAt
  simp [List.getD, List.getElem?_map, List.getElem?_eq_getElem h]
theorem nums_l (t : ByteArray) : (numsOf t).length = (wds 32 t).length := by unfold numsOf; rw [List.length_map]
def E25 : Env := fun g => envGetL [(81, ⟨true, sNo, some (s81T 2, s81F 2)⟩), (82, ⟨true, sMk, none⟩)] g
set_option maxRecDepth 100000 in
set_option maxHeartbeats 4000000 in
theorem ok25 : Ok Tryz.prog 25 s27 := ok_of_wpaH (E := E25) mixed tts (envOk_alt (ok81T 2) (ok81F 2) (envOk_cons ok82 (envOk_nil _))) fn25 fun args H v H' o hs ho => by
  split at hs
  · rename_i t
    cases hs
    have hsz : (t ⟨⟩).size ≤ 1048576 := ho.one
    have hsp : (2 : Int) = ((2 : Nat) : Int) ∧ (t ⟨⟩).size ≤ 1048576 ∧ 2 ≤ 3 := ⟨rfl, hsz, by decide⟩
    rcases bool_ft (nrOk 2 (t ⟨⟩)) with hok | hok
    · have k1 := (mk_f hok).1
      have k2 := (mk_f hok).2.1
      have k3 := (mk_f hok).2.2
      refine ⟨_, HLe.refl _, ?_⟩
      cbv
      refine alt_f hok ?_
      cbv
      repeat' (refine Ob.mk ?_ ?_; (focus (first | exact hok | exact hsp | exact k1 | exact k2 | exact k3)); cbv)
    · have hn := nr_num hok
      have k1 : (numsOf (t ⟨⟩)).getD 0 0 = mkX (t ⟨⟩) := by rw [nums_at (by omega)]; exact (mk_t hok).1
      have k2 : (numsOf (t ⟨⟩)).getD 1 0 = mkY (t ⟨⟩) := by rw [nums_at (by omega)]; exact (mk_t hok).2.1
      have k3 := (mk_t hok).2.2
      have hj0 : 0 < (numsOf (t ⟨⟩)).length := by rw [nums_l]; omega
      have hj1 : 1 < (numsOf (t ⟨⟩)).length := by rw [nums_l]; omega
      refine ⟨_, HLe.refl _, ?_⟩
      cbv
      refine alt_t hok ?_
      cbv
      repeat' first | (refine Ob.mk ?_ ?_; (focus (first | exact hok | exact hsp | exact hj0 | exact hj1 | exact k1 | exact k2 | exact k3 | exact ⟨by decide, by decide⟩)); cbv) | (refine Lex.mk (by kernel_rfl) ?_; cbv)
  · cases hs
end Go.Proofs.YteifneielgnniaaGreatDoor.Sh
end
section
namespace Go.Proofs.YteifneielgnniaaGreatDoor.Sh
open Go Go.Proofs
/-! ## spec.l04Read: a line of three numbers -/
end Go.Proofs.YteifneielgnniaaGreatDoor.Sh
end
section
namespace Go.Proofs.YteifneielgnniaaGreatDoor.Sh
open Go Go.Proofs
/-! ## webs that are read: plain -/
def ln (t : ByteArray) (i : Nat) : ByteArray := ((wds 10 t).map tx).getD i ByteArray.empty
def gd (t : ByteArray) (i : Nat) : Bool := nrOk 3 (ln t i)
end Go.Proofs.YteifneielgnniaaGreatDoor.Sh
end
section
namespace Go.Proofs.YteifneielgnniaaGreatDoor.Sh
open Go Go.Proofs
/-! ## a web's text is read -/
def hx (a : Nat) : List UInt8 := (digL (bitsX a) 8).map b8
theorem bl_num (a : Nat) : bl (numT a) = hx a := hexT_list _
theorem hx_len (a : Nat) : (hx a).length = 8 := by unfold hx; rw [List.length_map]; rfl
theorem hx_hok (a : Nat) : (hx a).all hok = true := dig_hok _ _
theorem hok_ne {c : UInt8} (h : hok c = true) : ¬ c = 32 ∧ ¬ c = 10 := by
  unfold hok at h
  have := of_decide_eq_true h
  constructor
  · rintro rfl; revert this; decide
  · rintro rfl; revert this; decide
theorem hx_pv {a : Nat} (h : a < 4294967296) : pv 0 (hx a) = bitsX a := by
  have hb := bitsX_lt h
  unfold hx
  rw [pv_dig, show (16 : Nat) ^ 8 = 4294967296 from by decide, Nat.mod_eq_of_lt hb]; simp
theorem hx_ok {a : Nat} (h : a < 4294967296) : rnOk (hx a) = true := by
  unfold rnOk
  rw [hx_len, hx_hok, hx_pv h, bitsX_bitsX]; simp
theorem hx_rn {a : Nat} (h : a < 4294967296) : rn (hx a) = bitsX a := by
  unfold rn
  rw [if_pos (hx_ok h), hx_pv h]
theorem splA_word (c : UInt8) : ∀ (w acc r : List UInt8), (∀ x ∈ w, ¬ x = c) → splA c acc (w ++ c :: r) = (acc ++ w) :: splA c [] r
  | [], acc, r, _ => by rw [List.nil_append, splA_eq rfl, List.append_nil]
  | x :: w, acc, r, h => by
    rw [List.cons_append, splA_ne (h x (List.mem_cons_self ..)), splA_word c w _ r fun y hy => h y (List.mem_cons_of_mem _ hy)]
    simp
theorem hx_no (a : Nat) : (∀ x ∈ hx a, ¬ x = 32) ∧ ∀ x ∈ hx a, ¬ x = 10 := by
  have h := List.all_eq_true.1 (hx_hok a)
  exact ⟨fun x hx => (hok_ne (h x hx)).1, fun x hx => (hok_ne (h x hx)).2⟩
theorem bl_append (a b : ByteArray) : bl (a ++ b) = bl a ++ bl b := by
  unfold bl; rw [ByteArray.data_append]; simp
end Go.Proofs.YteifneielgnniaaGreatDoor.Sh
end
