/- Texts of marks; colours out of register. No condition. -/
import Derived.Test.YteifneielgnniaaGreatDoorMf
import Derived.Laws.FloatBits
set_option linter.unusedVariables false
set_option linter.unusedSimpArgs false
set_option linter.unusedSectionVars false
section
namespace Go.Proofs.YteifneielgnniaaGreatDoor.Sh
namespace Rg
open Go Go.Proofs Go.RowKit Go.Shelf
/-! ## texts of marks -/
theorem join2eq (x y s : ByteArray) : (⟨(Lib.join ([x, y].map (·.data.toList)) s.data.toList).toArray⟩ : ByteArray) = x ++ s ++ y := by
  have e : ∀ a : ByteArray, (⟨a.data.toList.toArray⟩ : ByteArray) = a := fun a => by simp
  rw [List.map_cons, List.map_cons, List.map_nil, Lib.join_cons]
  simp only [Lib.joinTail, List.map_cons, List.map_nil, List.flatten_cons, List.flatten_nil, List.append_nil]
  rw [← mk_append, ← mk_append, e, e, e]
  simp only [ByteArray.append_assoc]
theorem join2_len (x y s : ByteArray) : (Lib.join ([x, y].map (·.data.toList)) s.data.toList).length = x.size + s.size + y.size := by
  rw [List.map_cons, List.map_cons, List.map_nil, Lib.join_cons]
  simp only [Lib.joinTail, List.map_cons, List.map_nil, List.flatten_cons, List.flatten_nil, List.append_nil, List.length_append, ← Lib.size_eq]
  omega
theorem join2_calls (w : World) (bk o c : Nat) (x y s : ByteArray) (hcells : ∀ (j : Nat) q, ([x, y] : List ByteArray)[j]? = some q → w.cell? ⟨bk, o + j, none⟩ = some (.string q)) (hbk : bk < w.heap.size) (hc : 2 ≤ c)
    (h1 : x.size ≤ 100) (h2 : y.size ≤ 100) (h4 : s.size ≤ 100) :
    Calls Tryz.prog 116 #[.slice (some ⟨bk, o, none⟩) 2 c, .string s] w fun e w' => e = .returned (.string (x ++ s ++ y)) ∧ Below w.heap.size w w' := by
  have h := Any.strings_Join Tryz.laysJoin extra156 bk o c [x, y] s w hcells hbk (by simp) hc (by rw [join2_len]; omega)
  rw [fJoin, join2eq] at h
  exact h
def join2 (x y s : ByteArray) : ByteArray := x ++ s ++ y
def s116b : Spec := fun args H => match args, H with
  | [.c (.sl 0 (.l 0) (.l 2)), .c (.s sp)], [some ⟨r, es, .lit [.s x, .s y]⟩] => some (.c (.s fun _ => join2 (x ()) (y ()) (sp ())), [some ⟨r, es, .lit [.s x, .s y]⟩], [fun _ => (x ()).size ≤ 100 ∧ (y ()).size ≤ 100 ∧ (sp ()).size ≤ 100])
  | _, _ => none
theorem ok116b : Ok Tryz.prog 116 s116b := by
  intro args H v H' o hs ho μ W w vs hW hH hr
  unfold s116b at hs
  split at hs
  · rename_i sp r es x y
    cases hs
    match vs, hr with
    | [u, t], hr =>
      obtain ⟨hu, ht, _⟩ := hr
      obtain ⟨hb, cap, a, g1, g2, g3, hu⟩ := hu
      have ht : t = .string (sp ()) := ht
      subst hu ht
      obtain ⟨c, e, lo, hi, hg, hc, _⟩ := (hH.blk 0 _ rfl).out
      have g1 : 2 ≤ cap := g1
      have ha : a = addrOf (μ 0) 0 := by
        rcases g3 with g3 | g3
        · omega
        · exact g3
      have hcell : ∀ j, j < 2 → ∀ q, ([x (), y ()] : List ByteArray)[j]? = some q → w.cell? ⟨(μ 0).blk, (μ 0).base + j, none⟩ = some (.string q) := fun j hj q hq => by
        have key : ∀ (e : Unit → ByteArray), (Cells.lit [.s x, .s y]).at j = some (.s e) → q = e () → w.cell? ⟨(μ 0).blk, (μ 0).base + j, none⟩ = some (.string q) := fun e he hqe => by
          obtain ⟨v', hv', r'⟩ := hc j _ he
          have r' : v' = .string (e ()) := r'
          have := cell_addr (L := μ 0) (o := j) hg
          rw [show (⟨(μ 0).blk, (μ 0).base + j, none⟩ : Addr) = addrOf (μ 0) j from rfl, this, hv', r', hqe]
        match j, hj with
        | 0, _ => exact key x rfl (by simpa using hq.symm)
        | 1, _ => exact key y rfl (by simpa using hq.symm)
      have hlt : (μ 0).blk < w.heap.size := (hH.blk 0 _ rfl).lt
      obtain ⟨z1, z2, z4⟩ := ho.one
      have k := join2_calls w (μ 0).blk (μ 0).base cap (x ()) (y ()) (sp ()) (fun j q hq => hcell j (lt_of_get hq) q hq) hlt g1 z1 z2 z4
      rw [ha]
      exact .inl ⟨callFunc_run fn116 _ _, k.mono fun e' w' ⟨h1, h2⟩ => ⟨_, h1, μ, agree.refl _ _, Nat.le_refl _, hH.quiet (fr_of h2), rfl, (fr_of h2).mono fun _ _ h => h.elim⟩⟩
  · cases hs
attribute [local irreducible] hexT bitsX join2
def s57b : Spec := lspec fun args H => match args, H with
  | [.c (.sl 0 (.l 0) (.l 2))], [some ⟨false, 0, .lit [.f .f32 a, .f .f32 b]⟩] => some (.c (.s fun _ => join2 (numT (a ())) (numT (b ())) spT), [none], [fun _ => a () < 4294967296 ∧ b () < 4294967296])
  | _, _ => none
def E57b : Env := fun g => envGetL [(115, ⟨true, s115, none⟩), (116, ⟨true, s116b, none⟩)] g
theorem E57bok : EnvOk Tryz.prog E57b := envOk_cons ok115 (envOk_cons ok116b (envOk_nil _))
set_option maxRecDepth 100000 in
set_option maxHeartbeats 2000000 in
theorem ok57b : Ok Tryz.prog 57 (s57b) := ok_of_wpaL (E := E57b) mixed tts E57bok fn57 fun args H v H' o hs ho => by
  split at hs
  · rename_i a b
    cases hs
    obtain ⟨ha, hb⟩ := ho.one
    have hz : (numT (a ⟨⟩)).size ≤ 100 ∧ (numT (b ⟨⟩)).size ≤ 100 ∧ spT.size ≤ 100 := by rw [numT_size, numT_size]; decide
    refine ⟨_, HLe.refl _, ?_⟩
    cbv
    repeat' first
      | (refine Ob.mk ?_ ?_; (focus (first | with_reducible rfl | with_reducible exact ha | with_reducible exact hb | with_reducible exact hz | exact ha | exact hb | exact hz | exact rfl | decide | trace_state)); cbv)
      | (refine Loop.mk 70 ?_; cbv)
      | (refine Gen.same ?_; cbv)
  · cases hs
/-- a mark's text -/
def mkT (a b : Nat) : ByteArray := join2 (numT a) (numT b) spT
theorem mkT_eq (a b : Nat) : numT a ++ spT ++ numT b = mkT a b := by unfold mkT join2; rfl
theorem mkT_eq2 (a b : Nat) : join2 (numT a) (numT b) spT = mkT a b := by unfold mkT; rfl
attribute [local irreducible] mkT
theorem fn26 : FnOk Tryz.prog 26 Tryz.f26 (bodyOf Tryz.f26) := ⟨Tryz.func26, rfl, by rfl⟩
def s26 : Spec := hspec fun args H => match args, H with
  | [.c (.z .f32 a b)], [] => some (.c (.s fun _ => mkT (a ()) (b ())), [], [fun _ => a () < 4294967296 ∧ b () < 4294967296])
  | _, _ => none
def E26 : Env := fun g => envGetL [(83, ⟨true, s83, none⟩), (84, ⟨true, s84, none⟩), (57, ⟨true, s57b, none⟩)] g
set_option maxRecDepth 100000 in
theorem ok26 : Ok Tryz.prog 26 s26 := ok_of_wpaH (E := E26) mixed tts (envOk_cons ok83 (envOk_cons ok84 (envOk_cons ok57b (envOk_nil _)))) fn26 fun args H v H' o hs ho => by
  split at hs
  · rename_i a b
    cases hs
    have hw := ho.one
    refine ⟨_, HLe.refl _, ?_⟩
    cbv
    repeat' (refine Ob.mk ?_ ?_; (focus (first | exact rfl | exact hw | exact mkT_eq2 _ _ | trace_state)); cbv)
  · cases hs
theorem fn88 : FnOk Tryz.prog 88 Tryz.f88 (bodyOf Tryz.f88) := ⟨Tryz.func88, rfl, by rfl⟩
theorem fn28 : FnOk Tryz.prog 28 Tryz.f28 (bodyOf Tryz.f28) := ⟨Tryz.func28, rfl, by rfl⟩
def E88 : Env := fun g => envGetL [(126, ⟨true, s126, none⟩), (127, ⟨true, s127, none⟩), (125, ⟨true, s125, none⟩)] g
set_option maxRecDepth 100000 in
theorem ok88 : Ok Tryz.prog 88 s26 := ok_of_wpaH (E := E88) mixed tts (envOk_cons ok126 (envOk_cons ok127 (envOk_cons ok125 (envOk_nil _)))) fn88 fun args H v H' o hs ho => by
  split at hs
  · rename_i a b
    cases hs
    obtain ⟨h1, h2⟩ := ho.one
    have hs1 : (hexT (bitsX (a ⟨⟩))).size + spT.size ≤ 9223372036854775807 := by rw [hexT_size]; decide
    have hs2 : (hexT (bitsX (a ⟨⟩)) ++ spT).size + (hexT (bitsX (b ⟨⟩))).size ≤ 9223372036854775807 := by rw [ByteArray.size_append, hexT_size, hexT_size]; decide
    refine ⟨_, HLe.refl _, ?_⟩
    cbv
    repeat' (refine Ob.mk ?_ ?_; (focus (first | exact h1 | exact h2 | exact hs1 | exact hs2 | exact mkT_eq _ _ | exact rfl | trace_state)); cbv)
  · cases hs
def E28 : Env := fun g => envGetL [(88, ⟨true, s26, none⟩)] g
set_option maxRecDepth 100000 in
theorem ok28 : Ok Tryz.prog 28 s26 := ok_of_wpaH (E := E28) mixed tts (envOk_cons ok88 (envOk_nil _)) fn28 fun args H v H' o hs ho => by
  split at hs
  · rename_i a b
    cases hs
    have hw := ho.one
    refine ⟨_, HLe.refl _, ?_⟩
    cbv
    repeat' (refine Ob.mk ?_ ?_; (focus (first | exact rfl | exact hw)); cbv)
  · cases hs
end Rg
end Go.Proofs.YteifneielgnniaaGreatDoor.Sh
end
section
namespace Go.Proofs.YteifneielgnniaaGreatDoor.Sh
namespace Rg
open Go Go.Proofs Ieee
/-! ## words of drawn marks; their texts are read -/
theorem quo_lt (a b : Nat) : fop .quo .f32 a b < 4294967296 := by
  unfold fop
  cases h : floatBits .quo .f32 a b with
  | none => decide
  | some r => exact Format.div_lt single (show single.div a b = some r from h)
theorem wrapu_lt (x : Int) : (IntKind.wrap .u32 x).toNat < 4294967296 := by
  unfold IntKind.wrap
  simp only [IntKind.signed, IntKind.bits]
  omega
theorem few_lt (n : Nat) : floatOfInt .f32 (([1048576, 1048577, -1048576] : List Int).getD n 0) < 4294967296 := by
  match n with
  | 0 => decide +kernel
  | 1 => decide +kernel
  | 2 => decide +kernel
  | n + 3 => exact (by decide +kernel : floatOfInt .f32 0 < 4294967296)
theorem anX_lt (L : List Int) (q r : Int × Int) : anX L q r < 4294967296 := by
  unfold anX fewX
  repeat' split
  all_goals first | exact quo_lt _ _ | exact wrapu_lt _ | exact few_lt _ | decide +kernel
theorem any_lt (L : List Int) (q : Int × Int) : (anyM L q).1 < 4294967296 ∧ (anyM L q).2 < 4294967296 := by
  unfold anyM
  split
  · exact ⟨anX_lt _ _ _, anX_lt _ _ _⟩
  · exact ⟨quo_lt _ _, quo_lt _ _⟩
theorem bl_mkT (a b : Nat) : bl (mkT a b) = hx a ++ 32 :: hx b := by
  rw [← mkT_eq]
  simp only [bl_append, bl_num]
  have h1 : bl spT = [32] := rfl
  rw [h1]; simp
theorem mkT_words (a b : Nat) : wds 32 (mkT a b) = [hx a, hx b] := by
  show spl 32 (bl (mkT a b)) = _
  rw [bl_mkT]
  unfold spl
  rw [splA_word 32 _ _ _ (hx_no a).1, splA_miss 32 _ _ (fun h => (hx_no b).1 _ h rfl)]
  simp
theorem mkT_size (a b : Nat) : (mkT a b).size = 17 := by
  have : (bl (mkT a b)).length = 17 := by rw [bl_mkT]; simp [hx_len]
  rw [← this]; exact (bl_len _).symm
theorem mark_read {a b : Nat} (ha : a < 4294967296) (hb : b < 4294967296) :
    mkX (mkT a b) = bitsX a ∧ mkY (mkT a b) = bitsX b ∧ mkC (mkT a b) = 0 ∧ (mkT a b).size ≤ 1048576 := by
  have hw := mkT_words a b
  have h0 : wAt (mkT a b) 0 = hx a := by unfold wAt; rw [hw]; rfl
  have h1 : wAt (mkT a b) 1 = hx b := by unfold wAt; rw [hw]; rfl
  have hok : nrOk 2 (mkT a b) = true := two_ok.2 ⟨by rw [hw]; rfl, by rw [h0]; exact hx_ok ha, by rw [h1]; exact hx_ok hb⟩
  obtain ⟨k1, k2, k3⟩ := mk_t hok
  refine ⟨?_, ?_, k3.symm, by rw [mkT_size]; decide⟩
  · rw [← k1, h0, hx_rn ha]
  · rw [← k2, h1, hx_rn hb]
/-! ## what is the same -/
theorem sameM_self (m : M) : sameM m m = true := by
  unfold sameM eqW
  cases h : isNan m.1 <;> cases h2 : isNan m.2 <;> simp
theorem eqS_self' (a : Nat) : eqS a a = true := by
  cases h : isNan a with
  | true => rw [eqS_nan (.inl h), h]; rfl
  | false =>
    rw [eqS_num h h]
    have : fcmp .eql .f32 a a = true := by
      have na : (Ieee.single.read a).isNaN = false := by rw [isNan_eq] at h; exact h
      show (Ieee.Datum.order (Ieee.single.read a) (Ieee.single.read a) == some .eq) = true
      rw [order_self na]; rfl
    rw [this]; simp
theorem sameMS_self (m : M) : sameMS m m = true := by
  unfold sameMS
  rw [eqS_self', eqS_self']; rfl
theorem sameShS_self (l : List M) : sameShS l l = true := allI_all fun i _ => sameMS_self _
/-! ## the colours that are out of register -/
def outR (l : List M) (w : Nat) : Nat → List Int
  | 0 => []
  | c + 1 => if fcmp .gtr .f32 (grS l c 3).2 w = true then outR l w c ++ [(c : Int)] else outR l w c
theorem out_put {l : List M} {w c : Nat} (h : fcmp .gtr .f32 (grS l c 3).2 w = true) : outR l w c ++ [(c : Int)] = outR l w (c + 1) := by
  conv => rhs; unfold outR
  rw [if_pos h]
theorem out_skip {l : List M} {w c : Nat} (h : fcmp .gtr .f32 (grS l c 3).2 w = false) : outR l w c = outR l w (c + 1) := by
  conv => rhs; unfold outR
  rw [if_neg (by rw [h]; decide)]
theorem out_len (l : List M) (w : Nat) : ∀ c, (outR l w c).length ≤ c
  | 0 => Nat.le_refl _
  | c + 1 => by
    have := out_len l w c
    unfold outR
    split
    · rw [List.length_append]; simp; omega
    · omega
theorem out_mem {l : List M} {w : Nat} {k : Int} : ∀ {n : Nat}, k ∈ outR l w n ↔ ∃ c, c < n ∧ k = (c : Int) ∧ fcmp .gtr .f32 (grS l c 3).2 w = true
  | 0 => ⟨fun h => absurd h (by simp [outR]), fun ⟨c, h, _⟩ => absurd h (Nat.not_lt_zero c)⟩
  | n + 1 => by
    have ih := out_mem (l := l) (w := w) (k := k) (n := n)
    unfold outR
    by_cases h : fcmp .gtr .f32 (grS l n 3).2 w = true
    · rw [if_pos h, List.mem_append, ih, List.mem_singleton]
      constructor
      · rintro (⟨c, h1, h2, h3⟩ | h1)
        · exact ⟨c, by omega, h2, h3⟩
        · exact ⟨n, by omega, h1, h⟩
      · rintro ⟨c, h1, h2, h3⟩
        by_cases e : c = n
        · subst e; exact .inr h2
        · exact .inl ⟨c, by omega, h2, h3⟩
    · rw [if_neg h, ih]
      constructor
      · rintro ⟨c, h1, h2, h3⟩; exact ⟨c, by omega, h2, h3⟩
      · rintro ⟨c, h1, h2, h3⟩
        by_cases e : c = n
        · subst e; exact absurd h3 h
        · exact ⟨c, by omega, h2, h3⟩
theorem has_out {l : List M} {w c : Nat} (hc : c < 4) : (!Go.Proofs.YteifneielgnniaaGreatDoor.Sh.allI (hasI 0 (outR l w 4) (c : Int)) (outR l w 4).length) = fcmp .gtr .f32 (grS l c 3).2 w := by
  cases h : fcmp .gtr .f32 (grS l c 3).2 w with
  | true =>
    have hm : (c : Int) ∈ outR l w 4 := out_mem.2 ⟨c, hc, rfl, h⟩
    obtain ⟨i, hi, e⟩ := List.getElem_of_mem hm
    have : Go.Proofs.YteifneielgnniaaGreatDoor.Sh.allI (hasI 0 (outR l w 4) (c : Int)) (outR l w 4).length = false := Go.Proofs.YteifneielgnniaaGreatDoor.Sh.allI_no (i := i) hi (by
      unfold hasI
      rw [Nat.zero_add, List.getD_eq_getElem?_getD, List.getElem?_eq_getElem hi, e]; simp)
    rw [this]; rfl
  | false =>
    have : Go.Proofs.YteifneielgnniaaGreatDoor.Sh.allI (hasI 0 (outR l w 4) (c : Int)) (outR l w 4).length = true := Go.Proofs.YteifneielgnniaaGreatDoor.Sh.allI_all fun i hi => by
      unfold hasI
      rw [Nat.zero_add, List.getD_eq_getElem?_getD, List.getElem?_eq_getElem hi, Option.getD_some]
      have hm := List.getElem_mem hi
      have : ¬ (outR l w 4)[i] = (c : Int) := by
        intro e
        rw [e] at hm
        obtain ⟨d, h1, h2, h3⟩ := out_mem.1 hm
        have : d = c := by omega
        subst this
        rw [h] at h3; cases h3
      simp [this]
    rw [this]; rfl
theorem same_out (l : List Int) : (decide (l.length = l.length) && Go.Proofs.YteifneielgnniaaGreatDoor.Sh.allI (rowEq 0 0 l l) l.length) = true := by
  rw [decide_eq_true rfl, Bool.true_and]
  exact Go.Proofs.YteifneielgnniaaGreatDoor.Sh.allI_all fun i _ => by unfold rowEq; simp
end Rg
end Go.Proofs.YteifneielgnniaaGreatDoor.Sh
end
section
namespace Go.Proofs.YteifneielgnniaaGreatDoor.Sh
namespace Rg
open Go Go.Proofs
theorem fn42 : FnOk Tryz.prog 42 Tryz.f42 (bodyOf Tryz.f42) := ⟨Tryz.func42, rfl, by rfl⟩
def s42 : Spec := hspec fun args H => match args, H with
  | [.a cs, .c (.f .f32 w)], [] => match cxsOf cs with
    | some q => some (.t [.c (.sl 0 (.l 0) (.x fun _ => (outR (forced q) (w ()) 4).length)), vI 0], [some ⟨true, 1, .it .i64 fun _ => outR (forced q) (w ()) 4⟩], [fun _ => q.length = 16 ∧ okS (forced q) = true ∧ isIn (w ()) 0 1166016512 = true])
    | none => none
  | _, _ => none
def E42 : Env := fun g => envGetL [(45, ⟨true, s45, none⟩), (100, ⟨true, s100, none⟩), (101, ⟨true, s101, none⟩)] g
theorem E42ok : EnvOk Tryz.prog E42 := envOk_cons ok45 (envOk_cons ok100 (envOk_cons ok101 (envOk_nil _)))
set_option maxRecDepth 100000 in
set_option maxHeartbeats 4000000 in
theorem ok42 : Ok Tryz.prog 42 (s42) := ok_of_wpaH (E := E42) mixed tts E42ok fn42 fun args H v H' o hs ho => by
  split at hs
  · rename_i cs w
    split at hs
    · rename_i q hq
      cases hs
      obtain ⟨hlen, hok, hw⟩ := ho.one
      obtain ⟨e, m, rfl, rfl⟩ := cx16 hq hlen
      clear hq hlen
      have hok : okS [(e 0 ⟨⟩, m 0 ⟨⟩), (e 1 ⟨⟩, m 1 ⟨⟩), (e 2 ⟨⟩, m 2 ⟨⟩), (e 3 ⟨⟩, m 3 ⟨⟩), (e 4 ⟨⟩, m 4 ⟨⟩), (e 5 ⟨⟩, m 5 ⟨⟩), (e 6 ⟨⟩, m 6 ⟨⟩), (e 7 ⟨⟩, m 7 ⟨⟩), (e 8 ⟨⟩, m 8 ⟨⟩), (e 9 ⟨⟩, m 9 ⟨⟩), (e 10 ⟨⟩, m 10 ⟨⟩), (e 11 ⟨⟩, m 11 ⟨⟩), (e 12 ⟨⟩, m 12 ⟨⟩), (e 13 ⟨⟩, m 13 ⟨⟩), (e 14 ⟨⟩, m 14 ⟨⟩), (e 15 ⟨⟩, m 15 ⟨⟩)] = true := hok
      have hw : isIn (w ⟨⟩) 0 1166016512 = true := hw
      refine ⟨_, HLe.refl _, ?_⟩
      cbv
      repeat' (refine Ob.mk ?_ ?_; (focus (exact rfl)); cbv)
      refine Br.f (ntf hok) ?_
      cbv
      repeat' (refine Ob.mk ?_ ?_; (focus (exact rfl)); cbv)
      refine Br.f (ntf hw) ?_
      cbv
      refine loop_rule (α := Unit → Nat) (c := ⟨tt, E42, 0⟩)
        (fun i => fr 37 [(1, .c (.f .f32 w)), (2, .c (.p 0 (.l 0))), (6, .c (.sl 1 (.l 0) (.x fun _ => (outR [(e 0 (), m 0 ()), (e 1 (), m 1 ()), (e 2 (), m 2 ()), (e 3 (), m 3 ()), (e 4 (), m 4 ()), (e 5 (), m 5 ()), (e 6 (), m 6 ()), (e 7 (), m 7 ()), (e 8 (), m 8 ()), (e 9 (), m 9 ()), (e 10 (), m 10 ()), (e 11 (), m 11 ()), (e 12 (), m 12 ()), (e 13 (), m 13 ()), (e 14 (), m 14 ()), (e 15 (), m 15 ())] (w ()) (i ())).length))), (19, .c (.i .i64 (.x fun _ => (i () : Int))))]) (fun i => [some ⟨true, 0, .lit [.z .f32 (e 0) (m 0), .z .f32 (e 1) (m 1), .z .f32 (e 2) (m 2), .z .f32 (e 3) (m 3), .z .f32 (e 4) (m 4), .z .f32 (e 5) (m 5), .z .f32 (e 6) (m 6), .z .f32 (e 7) (m 7), .z .f32 (e 8) (m 8), .z .f32 (e 9) (m 9), .z .f32 (e 10) (m 10), .z .f32 (e 11) (m 11), .z .f32 (e 12) (m 12), .z .f32 (e 13) (m 13), .z .f32 (e 14) (m 14), .z .f32 (e 15) (m 15)]⟩, some ⟨true, 1, .it .i64 fun _ => outR [(e 0 (), m 0 ()), (e 1 (), m 1 ()), (e 2 (), m 2 ()), (e 3 (), m 3 ()), (e 4 (), m 4 ()), (e 5 (), m 5 ()), (e 6 (), m 6 ()), (e 7 (), m 7 ()), (e 8 (), m 8 ()), (e 9 (), m 9 ()), (e 10 (), m 10 ()), (e 11 (), m 11 ()), (e 12 (), m 12 ()), (e 13 (), m 13 ()), (e 14 (), m 14 ()), (e 15 (), m 15 ())] (w ()) (i ())⟩])
        (fun i => i () ≤ 4) (fun i => 4 - i ()) (fun _ => 5) ?_ ?_
      · refine .mk (fun _ => 0) (Nat.zero_le _) (by dsimp only; omega) ?_
        cbv
        repeat' (refine Ob.mk ?_ ?_; rotate_left)
        all_goals (try simp only [Unit.unit, Int.ofNat_lt, Int.ofNat_le, BE.val, IE.val, NE.val, ltB_iff, ltB_no, leB_iff, leB_no, Int.toNat_natCast, Nat.zero_add, Nat.add_zero, Nat.mul_one, forced, beq_iff_eq, beq_eq_false_iff_ne, bne_iff_ne, bne_eq_false_iff_eq] at *)
        all_goals first | with_reducible rfl | trivial | rfl
      · intro i hi
        have h1 : i ⟨⟩ ≤ 4 := hi
        have hsl := out_len [(e 0 ⟨⟩, m 0 ⟨⟩), (e 1 ⟨⟩, m 1 ⟨⟩), (e 2 ⟨⟩, m 2 ⟨⟩), (e 3 ⟨⟩, m 3 ⟨⟩), (e 4 ⟨⟩, m 4 ⟨⟩), (e 5 ⟨⟩, m 5 ⟨⟩), (e 6 ⟨⟩, m 6 ⟨⟩), (e 7 ⟨⟩, m 7 ⟨⟩), (e 8 ⟨⟩, m 8 ⟨⟩), (e 9 ⟨⟩, m 9 ⟨⟩), (e 10 ⟨⟩, m 10 ⟨⟩), (e 11 ⟨⟩, m 11 ⟨⟩), (e 12 ⟨⟩, m 12 ⟨⟩), (e 13 ⟨⟩, m 13 ⟨⟩), (e 14 ⟨⟩, m 14 ⟨⟩), (e 15 ⟨⟩, m 15 ⟨⟩)] (w ⟨⟩) (i ⟨⟩)
        have hw64 : IntKind.wrap .i64 (((i ⟨⟩ : Nat) : Int) + 1) = ((i ⟨⟩ + 1 : Nat) : Int) := wrap64_nat (by omega)
        by_cases hin : i ⟨⟩ < 4
        · have hlt : ltB ((i ⟨⟩ : Nat) : Int) 4 = true := by rw [ltB_iff]; omega
          have hci : 0 ≤ ((i ⟨⟩ : Nat) : Int) ∧ ((i ⟨⟩ : Nat) : Int) ≤ 3 := ⟨by omega, by omega⟩
          rcases bool_ft (fcmp .gtr .f32 (grS [(e 0 ⟨⟩, m 0 ⟨⟩), (e 1 ⟨⟩, m 1 ⟨⟩), (e 2 ⟨⟩, m 2 ⟨⟩), (e 3 ⟨⟩, m 3 ⟨⟩), (e 4 ⟨⟩, m 4 ⟨⟩), (e 5 ⟨⟩, m 5 ⟨⟩), (e 6 ⟨⟩, m 6 ⟨⟩), (e 7 ⟨⟩, m 7 ⟨⟩), (e 8 ⟨⟩, m 8 ⟨⟩), (e 9 ⟨⟩, m 9 ⟨⟩), (e 10 ⟨⟩, m 10 ⟨⟩), (e 11 ⟨⟩, m 11 ⟨⟩), (e 12 ⟨⟩, m 12 ⟨⟩), (e 13 ⟨⟩, m 13 ⟨⟩), (e 14 ⟨⟩, m 14 ⟨⟩), (e 15 ⟨⟩, m 15 ⟨⟩)] (i ⟨⟩) 3).2 (w ⟨⟩)) with hg | hg
          · have hs := out_skip hg
            cbv
            refine Br.t hlt ?_
            cbv
            repeat' (refine Ob.mk ?_ ?_; (focus (first | exact rfl | exact ⟨rfl, hci⟩)); cbv)
            refine Br.f hg ?_
            cbv
            repeat' first | (refine Ob.mk ?_ ?_; rotate_left; cbv) | (refine Lex.mk (by decide +kernel) ?_; cbv) | (refine Next.mk (fun _ => i () + 1) ?_ ?_ ?_)
            all_goals (try simp only [Unit.unit, Int.ofNat_lt, Int.ofNat_le, BE.val, IE.val, NE.val, ltB_iff, ltB_no, leB_iff, leB_no, Int.toNat_natCast, Nat.zero_add, Nat.add_zero, Nat.mul_one, forced, beq_iff_eq, beq_eq_false_iff_ne, bne_iff_ne, bne_eq_false_iff_eq] at *)
            all_goals (try simp only [Nat.zero_add, List.length_append, List.length_cons, List.length_nil] at *)
            all_goals first | with_reducible rfl | omega | exact hw64 | exact hs | exact congrArg List.length hs | (rw [← hs, List.length_append]; rfl) | (refine ⟨Int.natCast_nonneg _, ?_⟩; omega) | rfl | (simp_all; done)
          · have hs := out_put hg
            cbv
            refine Br.t hlt ?_
            cbv
            repeat' (refine Ob.mk ?_ ?_; (focus (first | exact rfl | exact ⟨rfl, hci⟩)); cbv)
            refine Br.t hg ?_
            cbv
            repeat' first | (refine Ob.mk ?_ ?_; rotate_left; cbv) | (refine Lex.mk (by decide +kernel) ?_; cbv) | (refine Next.ren [0, 3] (fun _ => i () + 1) ?_ ?_ ?_)
            all_goals (try simp only [Unit.unit, Int.ofNat_lt, Int.ofNat_le, BE.val, IE.val, NE.val, ltB_iff, ltB_no, leB_iff, leB_no, Int.toNat_natCast, Nat.zero_add, Nat.add_zero, Nat.mul_one, forced, beq_iff_eq, beq_eq_false_iff_ne, bne_iff_ne, bne_eq_false_iff_eq] at *)
            all_goals (try simp only [Nat.zero_add, List.length_append, List.length_cons, List.length_nil] at *)
            all_goals first | with_reducible rfl | omega | exact hw64 | exact hs | exact congrArg List.length hs | (rw [← hs, List.length_append]; rfl) | (refine ⟨Int.natCast_nonneg _, ?_⟩; omega) | rfl | (simp_all; done)
        · have hik : i ⟨⟩ = 4 := by omega
          have hlt : ltB ((i ⟨⟩ : Nat) : Int) 4 = false := by rw [ltB_no]; omega
          have hfin : outR [(e 0 ⟨⟩, m 0 ⟨⟩), (e 1 ⟨⟩, m 1 ⟨⟩), (e 2 ⟨⟩, m 2 ⟨⟩), (e 3 ⟨⟩, m 3 ⟨⟩), (e 4 ⟨⟩, m 4 ⟨⟩), (e 5 ⟨⟩, m 5 ⟨⟩), (e 6 ⟨⟩, m 6 ⟨⟩), (e 7 ⟨⟩, m 7 ⟨⟩), (e 8 ⟨⟩, m 8 ⟨⟩), (e 9 ⟨⟩, m 9 ⟨⟩), (e 10 ⟨⟩, m 10 ⟨⟩), (e 11 ⟨⟩, m 11 ⟨⟩), (e 12 ⟨⟩, m 12 ⟨⟩), (e 13 ⟨⟩, m 13 ⟨⟩), (e 14 ⟨⟩, m 14 ⟨⟩), (e 15 ⟨⟩, m 15 ⟨⟩)] (w ⟨⟩) (i ⟨⟩) = outR [(e 0 ⟨⟩, m 0 ⟨⟩), (e 1 ⟨⟩, m 1 ⟨⟩), (e 2 ⟨⟩, m 2 ⟨⟩), (e 3 ⟨⟩, m 3 ⟨⟩), (e 4 ⟨⟩, m 4 ⟨⟩), (e 5 ⟨⟩, m 5 ⟨⟩), (e 6 ⟨⟩, m 6 ⟨⟩), (e 7 ⟨⟩, m 7 ⟨⟩), (e 8 ⟨⟩, m 8 ⟨⟩), (e 9 ⟨⟩, m 9 ⟨⟩), (e 10 ⟨⟩, m 10 ⟨⟩), (e 11 ⟨⟩, m 11 ⟨⟩), (e 12 ⟨⟩, m 12 ⟨⟩), (e 13 ⟨⟩, m 13 ⟨⟩), (e 14 ⟨⟩, m 14 ⟨⟩), (e 15 ⟨⟩, m 15 ⟨⟩)] (w ⟨⟩) 4 := by rw [hik]
          have hfl : (outR [(e 0 ⟨⟩, m 0 ⟨⟩), (e 1 ⟨⟩, m 1 ⟨⟩), (e 2 ⟨⟩, m 2 ⟨⟩), (e 3 ⟨⟩, m 3 ⟨⟩), (e 4 ⟨⟩, m 4 ⟨⟩), (e 5 ⟨⟩, m 5 ⟨⟩), (e 6 ⟨⟩, m 6 ⟨⟩), (e 7 ⟨⟩, m 7 ⟨⟩), (e 8 ⟨⟩, m 8 ⟨⟩), (e 9 ⟨⟩, m 9 ⟨⟩), (e 10 ⟨⟩, m 10 ⟨⟩), (e 11 ⟨⟩, m 11 ⟨⟩), (e 12 ⟨⟩, m 12 ⟨⟩), (e 13 ⟨⟩, m 13 ⟨⟩), (e 14 ⟨⟩, m 14 ⟨⟩), (e 15 ⟨⟩, m 15 ⟨⟩)] (w ⟨⟩) (i ⟨⟩)).length = (outR [(e 0 ⟨⟩, m 0 ⟨⟩), (e 1 ⟨⟩, m 1 ⟨⟩), (e 2 ⟨⟩, m 2 ⟨⟩), (e 3 ⟨⟩, m 3 ⟨⟩), (e 4 ⟨⟩, m 4 ⟨⟩), (e 5 ⟨⟩, m 5 ⟨⟩), (e 6 ⟨⟩, m 6 ⟨⟩), (e 7 ⟨⟩, m 7 ⟨⟩), (e 8 ⟨⟩, m 8 ⟨⟩), (e 9 ⟨⟩, m 9 ⟨⟩), (e 10 ⟨⟩, m 10 ⟨⟩), (e 11 ⟨⟩, m 11 ⟨⟩), (e 12 ⟨⟩, m 12 ⟨⟩), (e 13 ⟨⟩, m 13 ⟨⟩), (e 14 ⟨⟩, m 14 ⟨⟩), (e 15 ⟨⟩, m 15 ⟨⟩)] (w ⟨⟩) 4).length := by rw [hik]
          cbv
          refine Br.f hlt ?_
          cbv
          repeat' (refine Ob.mk ?_ ?_; (focus (first | exact rfl | exact hfin | exact hfl)); cbv)
    · cases hs
  · cases hs
theorem fn43 : FnOk Tryz.prog 43 Tryz.f43 (bodyOf Tryz.f43) := ⟨Tryz.func43, rfl, by rfl⟩
def s43 : Spec := hspec fun args H => match args, H with
  | [.a cs, .c (.f .f32 w)], [] => match cxsOf cs with
    | some q => some (.t [.c (.sl 0 (.l 0) (.x fun _ => (outR (forced q) (w ()) 4).length)), vI 0], [some ⟨true, 1, .it .i64 fun _ => outR (forced q) (w ()) 4⟩], [fun _ => q.length = 16 ∧ okS (forced q) = true ∧ isIn (w ()) 0 1166016512 = true])
    | none => none
  | _, _ => none
def E43 : Env := fun g => envGetL [(103, ⟨true, s103, none⟩), (102, ⟨true, s102, none⟩), (104, ⟨true, s104, none⟩)] g
theorem E43ok : EnvOk Tryz.prog E43 := envOk_cons ok103 (envOk_cons ok102 (envOk_cons ok104 (envOk_nil _)))
set_option maxRecDepth 100000 in
set_option maxHeartbeats 4000000 in
theorem ok43 : Ok Tryz.prog 43 (s43) := ok_of_wpaH (E := E43) mixed tts E43ok fn43 fun args H v H' o hs ho => by
  split at hs
  · rename_i cs w
    split at hs
    · rename_i q hq
      cases hs
      obtain ⟨hlen, hok, hw⟩ := ho.one
      obtain ⟨e, m, rfl, rfl⟩ := cx16 hq hlen
      clear hq hlen
      have hok : okS [(e 0 ⟨⟩, m 0 ⟨⟩), (e 1 ⟨⟩, m 1 ⟨⟩), (e 2 ⟨⟩, m 2 ⟨⟩), (e 3 ⟨⟩, m 3 ⟨⟩), (e 4 ⟨⟩, m 4 ⟨⟩), (e 5 ⟨⟩, m 5 ⟨⟩), (e 6 ⟨⟩, m 6 ⟨⟩), (e 7 ⟨⟩, m 7 ⟨⟩), (e 8 ⟨⟩, m 8 ⟨⟩), (e 9 ⟨⟩, m 9 ⟨⟩), (e 10 ⟨⟩, m 10 ⟨⟩), (e 11 ⟨⟩, m 11 ⟨⟩), (e 12 ⟨⟩, m 12 ⟨⟩), (e 13 ⟨⟩, m 13 ⟨⟩), (e 14 ⟨⟩, m 14 ⟨⟩), (e 15 ⟨⟩, m 15 ⟨⟩)] = true := hok
      have hw : isIn (w ⟨⟩) 0 1166016512 = true := hw
      have hcode : ((if okS [(e 0 ⟨⟩, m 0 ⟨⟩), (e 1 ⟨⟩, m 1 ⟨⟩), (e 2 ⟨⟩, m 2 ⟨⟩), (e 3 ⟨⟩, m 3 ⟨⟩), (e 4 ⟨⟩, m 4 ⟨⟩), (e 5 ⟨⟩, m 5 ⟨⟩), (e 6 ⟨⟩, m 6 ⟨⟩), (e 7 ⟨⟩, m 7 ⟨⟩), (e 8 ⟨⟩, m 8 ⟨⟩), (e 9 ⟨⟩, m 9 ⟨⟩), (e 10 ⟨⟩, m 10 ⟨⟩), (e 11 ⟨⟩, m 11 ⟨⟩), (e 12 ⟨⟩, m 12 ⟨⟩), (e 13 ⟨⟩, m 13 ⟨⟩), (e 14 ⟨⟩, m 14 ⟨⟩), (e 15 ⟨⟩, m 15 ⟨⟩)] = true then if inI 0 0 3 = true ∧ isIn (w ⟨⟩) 0 1166016512 = true then (0 : Int) else 2 else 1) != 0) = false := by rw [if_pos hok, if_pos ⟨rfl, hw⟩]; rfl
      refine ⟨_, HLe.refl _, ?_⟩
      cbv
      repeat' (refine Ob.mk ?_ ?_; (focus (exact rfl)); cbv)
      refine Br.f hcode ?_
      cbv
      refine loop_rule (α := Unit → Nat) (c := ⟨tt, E43, 0⟩)
        (fun i => fr 36 [(1, .c (.f .f32 w)), (2, .c (.p 0 (.l 0))), (7, .c (.sl 1 (.l 0) (.x fun _ => (outR [(e 0 (), m 0 ()), (e 1 (), m 1 ()), (e 2 (), m 2 ()), (e 3 (), m 3 ()), (e 4 (), m 4 ()), (e 5 (), m 5 ()), (e 6 (), m 6 ()), (e 7 (), m 7 ()), (e 8 (), m 8 ()), (e 9 (), m 9 ()), (e 10 (), m 10 ()), (e 11 (), m 11 ()), (e 12 (), m 12 ()), (e 13 (), m 13 ()), (e 14 (), m 14 ()), (e 15 (), m 15 ())] (w ()) (i ())).length))), (8, .c (.i .i64 (.x fun _ => (i () : Int))))]) (fun i => [some ⟨true, 0, .lit [.z .f32 (e 0) (m 0), .z .f32 (e 1) (m 1), .z .f32 (e 2) (m 2), .z .f32 (e 3) (m 3), .z .f32 (e 4) (m 4), .z .f32 (e 5) (m 5), .z .f32 (e 6) (m 6), .z .f32 (e 7) (m 7), .z .f32 (e 8) (m 8), .z .f32 (e 9) (m 9), .z .f32 (e 10) (m 10), .z .f32 (e 11) (m 11), .z .f32 (e 12) (m 12), .z .f32 (e 13) (m 13), .z .f32 (e 14) (m 14), .z .f32 (e 15) (m 15)]⟩, some ⟨true, 1, .it .i64 fun _ => outR [(e 0 (), m 0 ()), (e 1 (), m 1 ()), (e 2 (), m 2 ()), (e 3 (), m 3 ()), (e 4 (), m 4 ()), (e 5 (), m 5 ()), (e 6 (), m 6 ()), (e 7 (), m 7 ()), (e 8 (), m 8 ()), (e 9 (), m 9 ()), (e 10 (), m 10 ()), (e 11 (), m 11 ()), (e 12 (), m 12 ()), (e 13 (), m 13 ()), (e 14 (), m 14 ()), (e 15 (), m 15 ())] (w ()) (i ())⟩])
        (fun i => i () ≤ 4) (fun i => 4 - i ()) (fun _ => 5) ?_ ?_
      · refine .mk (fun _ => 0) (Nat.zero_le _) (by dsimp only; omega) ?_
        cbv
        repeat' (refine Ob.mk ?_ ?_; rotate_left)
        all_goals (try simp only [Unit.unit, Int.ofNat_lt, Int.ofNat_le, BE.val, IE.val, NE.val, ltB_iff, ltB_no, leB_iff, leB_no, Int.toNat_natCast, Nat.zero_add, Nat.add_zero, Nat.mul_one, forced, beq_iff_eq, beq_eq_false_iff_ne, bne_iff_ne, bne_eq_false_iff_eq] at *)
        all_goals first | with_reducible rfl | trivial | rfl
      · intro i hi
        have h1 : i ⟨⟩ ≤ 4 := hi
        have hsl := out_len [(e 0 ⟨⟩, m 0 ⟨⟩), (e 1 ⟨⟩, m 1 ⟨⟩), (e 2 ⟨⟩, m 2 ⟨⟩), (e 3 ⟨⟩, m 3 ⟨⟩), (e 4 ⟨⟩, m 4 ⟨⟩), (e 5 ⟨⟩, m 5 ⟨⟩), (e 6 ⟨⟩, m 6 ⟨⟩), (e 7 ⟨⟩, m 7 ⟨⟩), (e 8 ⟨⟩, m 8 ⟨⟩), (e 9 ⟨⟩, m 9 ⟨⟩), (e 10 ⟨⟩, m 10 ⟨⟩), (e 11 ⟨⟩, m 11 ⟨⟩), (e 12 ⟨⟩, m 12 ⟨⟩), (e 13 ⟨⟩, m 13 ⟨⟩), (e 14 ⟨⟩, m 14 ⟨⟩), (e 15 ⟨⟩, m 15 ⟨⟩)] (w ⟨⟩) (i ⟨⟩)
        have hw64 : IntKind.wrap .i64 (((i ⟨⟩ : Nat) : Int) + 1) = ((i ⟨⟩ + 1 : Nat) : Int) := wrap64_nat (by omega)
        by_cases hin : i ⟨⟩ < 4
        · have hlt : ltB ((i ⟨⟩ : Nat) : Int) 4 = true := by rw [ltB_iff]; omega
          have hci : 0 ≤ ((i ⟨⟩ : Nat) : Int) ∧ ((i ⟨⟩ : Nat) : Int) ≤ 3 := ⟨by omega, by omega⟩
          rcases bool_ft (fcmp .gtr .f32 (grS [(e 0 ⟨⟩, m 0 ⟨⟩), (e 1 ⟨⟩, m 1 ⟨⟩), (e 2 ⟨⟩, m 2 ⟨⟩), (e 3 ⟨⟩, m 3 ⟨⟩), (e 4 ⟨⟩, m 4 ⟨⟩), (e 5 ⟨⟩, m 5 ⟨⟩), (e 6 ⟨⟩, m 6 ⟨⟩), (e 7 ⟨⟩, m 7 ⟨⟩), (e 8 ⟨⟩, m 8 ⟨⟩), (e 9 ⟨⟩, m 9 ⟨⟩), (e 10 ⟨⟩, m 10 ⟨⟩), (e 11 ⟨⟩, m 11 ⟨⟩), (e 12 ⟨⟩, m 12 ⟨⟩), (e 13 ⟨⟩, m 13 ⟨⟩), (e 14 ⟨⟩, m 14 ⟨⟩), (e 15 ⟨⟩, m 15 ⟨⟩)] (i ⟨⟩) 3).2 (w ⟨⟩)) with hg | hg
          · have hs := out_skip hg
            cbv
            refine Br.t hlt ?_
            cbv
            repeat' (refine Ob.mk ?_ ?_; (focus (first | exact rfl | exact ⟨rfl, hci⟩)); cbv)
            refine Br.f hg ?_
            cbv
            repeat' first | (refine Ob.mk ?_ ?_; rotate_left; cbv) | (refine Lex.mk (by decide +kernel) ?_; cbv) | (refine Next.mk (fun _ => i () + 1) ?_ ?_ ?_)
            all_goals (try simp only [Unit.unit, Int.ofNat_lt, Int.ofNat_le, BE.val, IE.val, NE.val, ltB_iff, ltB_no, leB_iff, leB_no, Int.toNat_natCast, Nat.zero_add, Nat.add_zero, Nat.mul_one, forced, beq_iff_eq, beq_eq_false_iff_ne, bne_iff_ne, bne_eq_false_iff_eq] at *)
            all_goals (try simp only [Nat.zero_add, List.length_append, List.length_cons, List.length_nil] at *)
            all_goals first | with_reducible rfl | omega | exact hw64 | exact hs | exact congrArg List.length hs | (rw [← hs, List.length_append]; rfl) | (refine ⟨Int.natCast_nonneg _, ?_⟩; omega) | rfl | (simp_all; done)
          · have hs := out_put hg
            cbv
            refine Br.t hlt ?_
            cbv
            repeat' (refine Ob.mk ?_ ?_; (focus (first | exact rfl | exact ⟨rfl, hci⟩)); cbv)
            refine Br.t hg ?_
            cbv
            repeat' first | (refine Ob.mk ?_ ?_; rotate_left; cbv) | (refine Lex.mk (by decide +kernel) ?_; cbv) | (refine Next.ren [0, 3] (fun _ => i () + 1) ?_ ?_ ?_)
            all_goals (try simp only [Unit.unit, Int.ofNat_lt, Int.ofNat_le, BE.val, IE.val, NE.val, ltB_iff, ltB_no, leB_iff, leB_no, Int.toNat_natCast, Nat.zero_add, Nat.add_zero, Nat.mul_one, forced, beq_iff_eq, beq_eq_false_iff_ne, bne_iff_ne, bne_eq_false_iff_eq] at *)
            all_goals (try simp only [Nat.zero_add, List.length_append, List.length_cons, List.length_nil] at *)
            all_goals first | with_reducible rfl | omega | exact hw64 | exact hs | exact congrArg List.length hs | (rw [← hs, List.length_append]; rfl) | (refine ⟨Int.natCast_nonneg _, ?_⟩; omega) | rfl | (simp_all; done)
        · have hik : i ⟨⟩ = 4 := by omega
          have hlt : ltB ((i ⟨⟩ : Nat) : Int) 4 = false := by rw [ltB_no]; omega
          have hfin : outR [(e 0 ⟨⟩, m 0 ⟨⟩), (e 1 ⟨⟩, m 1 ⟨⟩), (e 2 ⟨⟩, m 2 ⟨⟩), (e 3 ⟨⟩, m 3 ⟨⟩), (e 4 ⟨⟩, m 4 ⟨⟩), (e 5 ⟨⟩, m 5 ⟨⟩), (e 6 ⟨⟩, m 6 ⟨⟩), (e 7 ⟨⟩, m 7 ⟨⟩), (e 8 ⟨⟩, m 8 ⟨⟩), (e 9 ⟨⟩, m 9 ⟨⟩), (e 10 ⟨⟩, m 10 ⟨⟩), (e 11 ⟨⟩, m 11 ⟨⟩), (e 12 ⟨⟩, m 12 ⟨⟩), (e 13 ⟨⟩, m 13 ⟨⟩), (e 14 ⟨⟩, m 14 ⟨⟩), (e 15 ⟨⟩, m 15 ⟨⟩)] (w ⟨⟩) (i ⟨⟩) = outR [(e 0 ⟨⟩, m 0 ⟨⟩), (e 1 ⟨⟩, m 1 ⟨⟩), (e 2 ⟨⟩, m 2 ⟨⟩), (e 3 ⟨⟩, m 3 ⟨⟩), (e 4 ⟨⟩, m 4 ⟨⟩), (e 5 ⟨⟩, m 5 ⟨⟩), (e 6 ⟨⟩, m 6 ⟨⟩), (e 7 ⟨⟩, m 7 ⟨⟩), (e 8 ⟨⟩, m 8 ⟨⟩), (e 9 ⟨⟩, m 9 ⟨⟩), (e 10 ⟨⟩, m 10 ⟨⟩), (e 11 ⟨⟩, m 11 ⟨⟩), (e 12 ⟨⟩, m 12 ⟨⟩), (e 13 ⟨⟩, m 13 ⟨⟩), (e 14 ⟨⟩, m 14 ⟨⟩), (e 15 ⟨⟩, m 15 ⟨⟩)] (w ⟨⟩) 4 := by rw [hik]
          have hfl : (outR [(e 0 ⟨⟩, m 0 ⟨⟩), (e 1 ⟨⟩, m 1 ⟨⟩), (e 2 ⟨⟩, m 2 ⟨⟩), (e 3 ⟨⟩, m 3 ⟨⟩), (e 4 ⟨⟩, m 4 ⟨⟩), (e 5 ⟨⟩, m 5 ⟨⟩), (e 6 ⟨⟩, m 6 ⟨⟩), (e 7 ⟨⟩, m 7 ⟨⟩), (e 8 ⟨⟩, m 8 ⟨⟩), (e 9 ⟨⟩, m 9 ⟨⟩), (e 10 ⟨⟩, m 10 ⟨⟩), (e 11 ⟨⟩, m 11 ⟨⟩), (e 12 ⟨⟩, m 12 ⟨⟩), (e 13 ⟨⟩, m 13 ⟨⟩), (e 14 ⟨⟩, m 14 ⟨⟩), (e 15 ⟨⟩, m 15 ⟨⟩)] (w ⟨⟩) (i ⟨⟩)).length = (outR [(e 0 ⟨⟩, m 0 ⟨⟩), (e 1 ⟨⟩, m 1 ⟨⟩), (e 2 ⟨⟩, m 2 ⟨⟩), (e 3 ⟨⟩, m 3 ⟨⟩), (e 4 ⟨⟩, m 4 ⟨⟩), (e 5 ⟨⟩, m 5 ⟨⟩), (e 6 ⟨⟩, m 6 ⟨⟩), (e 7 ⟨⟩, m 7 ⟨⟩), (e 8 ⟨⟩, m 8 ⟨⟩), (e 9 ⟨⟩, m 9 ⟨⟩), (e 10 ⟨⟩, m 10 ⟨⟩), (e 11 ⟨⟩, m 11 ⟨⟩), (e 12 ⟨⟩, m 12 ⟨⟩), (e 13 ⟨⟩, m 13 ⟨⟩), (e 14 ⟨⟩, m 14 ⟨⟩), (e 15 ⟨⟩, m 15 ⟨⟩)] (w ⟨⟩) 4).length := by rw [hik]
          cbv
          refine Br.f hlt ?_
          cbv
          repeat' (refine Ob.mk ?_ ?_; (focus (first | exact rfl | exact hfin | exact hfl)); cbv)
    · cases hs
  · cases hs
end Rg
end Go.Proofs.YteifneielgnniaaGreatDoor.Sh
end
section
namespace Go.Proofs.YteifneielgnniaaGreatDoor.Sh
namespace Rg
open Go Go.Proofs
theorem fn4 : FnOk Tryz.prog 4 Tryz.f4 (bodyOf Tryz.f4) := ⟨Tryz.func4, rfl, by rfl⟩
theorem cut_3_2 : cutR 2 (cutR 3 (bodyOf Tryz.f4)) = cutR 6 (bodyOf Tryz.f4) := by rfl
theorem cut_6_1 : cutR 1 (cutR 6 (bodyOf Tryz.f4)) = cutR 8 (bodyOf Tryz.f4) := by rfl
theorem cut_8_2 : cutR 2 (cutR 8 (bodyOf Tryz.f4)) = cutR 11 (bodyOf Tryz.f4) := by rfl
theorem eqW_self' (a : Nat) : eqW a a = true := by
  unfold eqW
  cases h : isNan a <;> simp
def E4 : Env := fun g => envGetL [(5, ⟨true, s5, none⟩), (24, ⟨true, s24, none⟩), (26, ⟨true, s26, none⟩), (25, ⟨true, s27, none⟩), (28, ⟨true, s26, none⟩), (27, ⟨true, s27, none⟩), (30, ⟨true, s30, none⟩), (31, ⟨true, s31, none⟩), (29, ⟨true, s29, none⟩), (32, ⟨true, s32, none⟩), (33, ⟨true, s33, none⟩), (34, ⟨true, s34, none⟩), (35, ⟨true, s35, none⟩), (36, ⟨true, s36, none⟩), (37, ⟨true, s37, none⟩), (21, ⟨true, s21, none⟩), (38, ⟨true, s38, none⟩), (39, ⟨true, s39, none⟩), (40, ⟨true, s40, none⟩), (41, ⟨true, s41, none⟩), (7, ⟨true, s7, none⟩), (42, ⟨true, s42, none⟩), (43, ⟨true, s43, none⟩), (44, ⟨true, s105, none⟩), (45, ⟨true, s45, none⟩), (46, ⟨true, s46, none⟩), (47, ⟨true, s47, none⟩), (48, ⟨true, s48, none⟩), (49, ⟨true, s49, none⟩), (50, ⟨true, s50, none⟩), (51, ⟨true, s109, none⟩), (52, ⟨true, s52, none⟩)] g
theorem E4ok : EnvOk Tryz.prog E4 := (envOk_cons ok5 (envOk_cons ok24 (envOk_cons ok26 (envOk_cons ok25 (envOk_cons ok28 (envOk_cons ok27 (envOk_cons ok30 (envOk_cons ok31 (envOk_cons ok29 (envOk_cons ok32 (envOk_cons ok33 (envOk_cons ok34 (envOk_cons ok35 (envOk_cons ok36 (envOk_cons ok37 (envOk_cons ok21 (envOk_cons ok38 (envOk_cons ok39 (envOk_cons ok40 (envOk_cons ok41 (envOk_cons ok7 (envOk_cons ok42 (envOk_cons ok43 (envOk_cons ok44 (envOk_cons ok45 (envOk_cons ok46 (envOk_cons ok47 (envOk_cons ok48 (envOk_cons ok49 (envOk_cons ok50 (envOk_cons ok51 (envOk_cons ok52 (envOk_nil _)))))))))))))))))))))))))))))))))
theorem off_same (l : List M) (c k : Nat) : (!sameM ((offM l c k).1, (offM l c k).2) ((minusM ((l.getD (c * 4 + k) (0, 0)).1, (l.getD (c * 4 + k) (0, 0)).2) ((l.getD k (0, 0)).1, (l.getD k (0, 0)).2)).1, (minusM ((l.getD (c * 4 + k) (0, 0)).1, (l.getD (c * 4 + k) (0, 0)).2) ((l.getD k (0, 0)).1, (l.getD k (0, 0)).2)).2)) = false := by
  have := sameM_self (offM l c k)
  show (!sameM (offM l c k) (offM l c k)) = false
  rw [this]; rfl
theorem lt16 {l : List M} {i : Nat} (hl : l.length = 16) (h : i < 16) : i < l.length := by omega
theorem ne_ffI {a b : Int} (h : a = b) : (a != b) = false := by subst h; simp
theorem ntf {b : Bool} (h : b = true) : (!b) = false := by subst h; rfl
theorem d_within : allR 400 (fun r => isIn (fop .quo .f32 (floatOfInt .f32 (r : Int)) 1098907648) 0 1166016512) = true := by decide +kernel
theorem same_marks {a b : M} (ha : a.1 < 4294967296 ∧ a.2 < 4294967296) (hb : b.1 < 4294967296 ∧ b.2 < 4294967296) : (sameMS a b != sameM a b) = false := by
  unfold sameMS sameM
  rw [same_eq ha.1 hb.1, same_eq ha.2 hb.2]
  exact bne_self_eq_false _
end Rg
end Go.Proofs.YteifneielgnniaaGreatDoor.Sh
end
