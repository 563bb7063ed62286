/- Texts of numbers and webs; the law. No condition. -/
import Derived.Test.YtkgkdpjjlkpbfaaDoorVb
import Derived.Shelf.Strings.Repeat
import Derived.Shelf.Strings.OnBuilder
import Derived.Lib.Agree
set_option linter.unusedVariables false
set_option linter.unusedSimpArgs false
set_option linter.unusedSectionVars false
section
namespace Go.Proofs.YtkgkdpjjlkpbfaaDoor.Sh
open Go Go.Proofs Go.RowKit Go.Shelf
def Tryd.laysRepeat_ren : Go.Shelf.Ren := ⟨fun | 105 => 31 | 212 => 37 | 99 => 38 | 165 => 32 | 166 => 33 | 170 => 39 | 169 => 34 | 263 => 47 | 264 => 48 | 206 => 49 | 240 => 40 | 241 => 41 | 276 => 50 | 277 => 51 | n => n, fun | 9 => 9 | 3 => 3 | 4 => 4 | 20 => 20 | 0 => 0 | 46 => 72 | 109 => 73 | 5 => 5 | 72 => 65 | 76 => 69 | 51 => 59 | 146 => 84 | 53 => 58 | 148 => 86 | 70 => 62 | 37 => 63 | 75 => 68 | 127 => 77 | 164 => 88 | 80 => 71 | n => n, fun | n => n⟩
theorem Tryd.laysRepeat : Go.Proofs.Lays.n105 Tryd.prog Tryd.laysRepeat_ren := {
  mixed := by kernel_rfl
  f99 := Tryd.func38.trans (congrArg some (by kernel_rfl))
  f105 := Tryd.func31.trans (congrArg some (by kernel_rfl))
  f165 := Tryd.func32.trans (congrArg some (by kernel_rfl))
  f166 := Tryd.func33.trans (congrArg some (by kernel_rfl))
  f169 := Tryd.func34.trans (congrArg some (by kernel_rfl))
  f170 := Tryd.func39.trans (congrArg some (by kernel_rfl))
  f206 := Tryd.func49.trans (congrArg some (by kernel_rfl))
  f212 := Tryd.func37.trans (congrArg some (by kernel_rfl))
  f240 := Tryd.func40.trans (congrArg some (by kernel_rfl))
  f241 := Tryd.func41.trans (congrArg some (by kernel_rfl))
  f263 := Tryd.func47.trans (congrArg some (by kernel_rfl))
  f264 := Tryd.func48.trans (congrArg some (by kernel_rfl))
  f276 := Tryd.func50.trans (congrArg some (by kernel_rfl))
  f277 := Tryd.func51.trans (congrArg some (by kernel_rfl))
  t0 := Tryd.underlying0
  a0 := Tryd.isAgg0
  z0 := Tryd.sizeOf0
  v0 := Tryd.zeroValue0
  t3 := Tryd.underlying3
  a3 := Tryd.isAgg3
  z3 := Tryd.sizeOf3
  v3 := Tryd.zeroValue3
  t4 := Tryd.underlying4
  a4 := Tryd.isAgg4
  z4 := Tryd.sizeOf4
  v4 := Tryd.zeroValue4
  t5 := Tryd.underlying5
  a5 := Tryd.isAgg5
  z5 := Tryd.sizeOf5
  v5 := Tryd.zeroValue5
  t9 := Tryd.underlying9
  a9 := Tryd.isAgg9
  z9 := Tryd.sizeOf9
  v9 := Tryd.zeroValue9
  t20 := Tryd.underlying20
  a20 := Tryd.isAgg20
  z20 := Tryd.sizeOf20
  v20 := Tryd.zeroValue20
  t37 := Tryd.underlying63
  a37 := Tryd.isAgg63
  z37 := Tryd.sizeOf63
  v37 := Tryd.zeroValue63
  t46 := Tryd.underlying72
  a46 := Tryd.isAgg72
  z46 := Tryd.sizeOf72
  v46 := Tryd.zeroValue72
  t51 := Tryd.underlying59
  a51 := Tryd.isAgg59
  z51 := Tryd.sizeOf59
  v51 := Tryd.zeroValue59
  t53 := Tryd.underlying58
  a53 := Tryd.isAgg58
  z53 := Tryd.sizeOf58
  v53 := Tryd.zeroValue58
  t70 := Tryd.underlying62
  a70 := Tryd.isAgg62
  z70 := Tryd.sizeOf62
  v70 := Tryd.zeroValue62
  t72 := Tryd.underlying65
  a72 := Tryd.isAgg65
  z72 := Tryd.sizeOf65
  v72 := Tryd.zeroValue65
  t75 := Tryd.underlying68
  a75 := Tryd.isAgg68
  z75 := Tryd.sizeOf68
  v75 := Tryd.zeroValue68
  t76 := Tryd.underlying69
  a76 := Tryd.isAgg69
  z76 := Tryd.sizeOf69
  v76 := Tryd.zeroValue69
  t109 := Tryd.underlying73
  a109 := Tryd.isAgg73
  z109 := Tryd.sizeOf73
  v109 := Tryd.zeroValue73
  t127 := Tryd.underlying77
  a127 := Tryd.isAgg77
  z127 := Tryd.sizeOf77
  v127 := Tryd.zeroValue77
  t146 := Tryd.underlying84
  a146 := Tryd.isAgg84
  z146 := Tryd.sizeOf84
  v146 := Tryd.zeroValue84
  t148 := Tryd.underlying86
  a148 := Tryd.isAgg86
  z148 := Tryd.sizeOf86
  v148 := Tryd.zeroValue86
  t164 := Tryd.underlying88
  a164 := Tryd.isAgg88
  z164 := Tryd.sizeOf88
  v164 := Tryd.zeroValue88 }
theorem extra105 : Builder.Extra Tryd.prog Tryd.laysRepeat_ren := {
  sizeBuilder := by kernel_rfl
  liesBuilder := by kernel_rfl
  t5 := Tryd.laysRepeat.t5
  a5 := Tryd.laysRepeat.a5
  z5 := Tryd.laysRepeat.z5
  v5 := Tryd.laysRepeat.v5
  infoByte := by kernel_rfl
  cellsByte := by kernel_rfl
  sizeByte := by kernel_rfl
  neB5 := by decide }
theorem fRepeat : Tryd.laysRepeat_ren.f 105 = 31 := by kernel_rfl
theorem rep_calls (w : World) (m : Nat) (h : m ≤ 8) : Calls Tryd.prog 31 #[.string ({ data := #[48] } : ByteArray), .int .i64 (m : Int)] w fun e w' => e = .returned (.string (zerosT m)) ∧ Below w.heap.size w w' := by
  have h := Any.strings_Repeat Tryd.laysRepeat extra105 ⟨#[48]⟩ m w (by omega) (by show 1 * m ≤ _; omega)
  rw [fRepeat] at h
  refine h.mono fun e w' ⟨he, hw⟩ => ⟨?_, hw⟩
  rw [he]
  have e : Lib.repeatL (ByteArray.mk #[48]).data.toList m = List.replicate m 48 := by
    have := Lib.repeatL_replicate 48 1 m
    simpa using this
  rw [e]
  rfl
end Go.Proofs.YtkgkdpjjlkpbfaaDoor.Sh
end
section
namespace Go.Proofs.YtkgkdpjjlkpbfaaDoor.Sh
open Go Go.Proofs Go.RowKit Go.Shelf
def Tryd.laysJoin_ren : Go.Shelf.Ren := ⟨fun | 156 => 26 | 165 => 32 | 166 => 33 | 169 => 34 | 240 => 40 | 241 => 41 | 276 => 50 | 277 => 51 | n => n, fun | 31 => 53 | 9 => 9 | 3 => 3 | 4 => 4 | 0 => 0 | 20 => 20 | 72 => 65 | 76 => 69 | 70 => 62 | 37 => 63 | 75 => 68 | 127 => 77 | 164 => 88 | 5 => 5 | 80 => 71 | n => n, fun | n => n⟩
theorem Tryd.laysJoin : Go.Proofs.Lays.n156 Tryd.prog Tryd.laysJoin_ren := {
  mixed := by kernel_rfl
  f156 := Tryd.func26.trans (congrArg some (by kernel_rfl))
  f165 := Tryd.func32.trans (congrArg some (by kernel_rfl))
  f166 := Tryd.func33.trans (congrArg some (by kernel_rfl))
  f169 := Tryd.func34.trans (congrArg some (by kernel_rfl))
  f240 := Tryd.func40.trans (congrArg some (by kernel_rfl))
  f241 := Tryd.func41.trans (congrArg some (by kernel_rfl))
  f276 := Tryd.func50.trans (congrArg some (by kernel_rfl))
  f277 := Tryd.func51.trans (congrArg some (by kernel_rfl))
  t0 := Tryd.underlying0
  a0 := Tryd.isAgg0
  z0 := Tryd.sizeOf0
  v0 := Tryd.zeroValue0
  t3 := Tryd.underlying3
  a3 := Tryd.isAgg3
  z3 := Tryd.sizeOf3
  v3 := Tryd.zeroValue3
  t4 := Tryd.underlying4
  a4 := Tryd.isAgg4
  z4 := Tryd.sizeOf4
  v4 := Tryd.zeroValue4
  t9 := Tryd.underlying9
  a9 := Tryd.isAgg9
  z9 := Tryd.sizeOf9
  v9 := Tryd.zeroValue9
  t20 := Tryd.underlying20
  a20 := Tryd.isAgg20
  z20 := Tryd.sizeOf20
  v20 := Tryd.zeroValue20
  t31 := Tryd.underlying53
  a31 := Tryd.isAgg53
  z31 := Tryd.sizeOf53
  v31 := Tryd.zeroValue53
  t37 := Tryd.underlying63
  a37 := Tryd.isAgg63
  z37 := Tryd.sizeOf63
  v37 := Tryd.zeroValue63
  t70 := Tryd.underlying62
  a70 := Tryd.isAgg62
  z70 := Tryd.sizeOf62
  v70 := Tryd.zeroValue62
  t72 := Tryd.underlying65
  a72 := Tryd.isAgg65
  z72 := Tryd.sizeOf65
  v72 := Tryd.zeroValue65
  t75 := Tryd.underlying68
  a75 := Tryd.isAgg68
  z75 := Tryd.sizeOf68
  v75 := Tryd.zeroValue68
  t76 := Tryd.underlying69
  a76 := Tryd.isAgg69
  z76 := Tryd.sizeOf69
  v76 := Tryd.zeroValue69
  t127 := Tryd.underlying77
  a127 := Tryd.isAgg77
  z127 := Tryd.sizeOf77
  v127 := Tryd.zeroValue77
  t164 := Tryd.underlying88
  a164 := Tryd.isAgg88
  z164 := Tryd.sizeOf88
  v164 := Tryd.zeroValue88 }
theorem extra156 : Builder.Extra Tryd.prog Tryd.laysJoin_ren := {
  sizeBuilder := by kernel_rfl
  liesBuilder := by kernel_rfl
  t5 := by kernel_rfl
  a5 := by have := Tryd.laysRepeat.a5; exact this
  z5 := by have := Tryd.laysRepeat.z5; exact this
  v5 := by have := Tryd.laysRepeat.v5; exact this
  infoByte := by kernel_rfl
  cellsByte := by kernel_rfl
  sizeByte := by kernel_rfl
  neB5 := by decide }
theorem fJoin : Tryd.laysJoin_ren.f 156 = 26 := by kernel_rfl
theorem join3eq (x y z s : ByteArray) : (⟨(Lib.join ([x, y, z].map (·.data.toList)) s.data.toList).toArray⟩ : ByteArray) = x ++ s ++ y ++ s ++ z := by
  have e : ∀ a : ByteArray, (⟨a.data.toList.toArray⟩ : ByteArray) = a := fun a => by simp
  rw [List.map_cons, List.map_cons, List.map_cons, List.map_nil, Lib.join_cons]
  simp only [Lib.joinTail, List.map_cons, List.map_nil, List.flatten_cons, List.flatten_nil, List.append_nil]
  rw [← mk_append, ← mk_append, ← mk_append, ← mk_append, e, e, e, e]
  simp only [ByteArray.append_assoc]
theorem join_len (x y z s : ByteArray) : (Lib.join ([x, y, z].map (·.data.toList)) s.data.toList).length = x.size + s.size + y.size + s.size + z.size := by
  rw [List.map_cons, List.map_cons, List.map_cons, List.map_nil, Lib.join_cons]
  simp only [Lib.joinTail, List.map_cons, List.map_nil, List.flatten_cons, List.flatten_nil, List.append_nil, List.length_append, ← Lib.size_eq]
  omega
theorem join_calls (w : World) (bk o c : Nat) (x y z s : ByteArray) (hcells : ∀ (j : Nat) q, ([x, y, z] : List ByteArray)[j]? = some q → w.cell? ⟨bk, o + j, none⟩ = some (.string q)) (hbk : bk < w.heap.size) (hc : 3 ≤ c)
    (h1 : x.size ≤ 100) (h2 : y.size ≤ 100) (h3 : z.size ≤ 100) (h4 : s.size ≤ 100) :
    Calls Tryd.prog 26 #[.slice (some ⟨bk, o, none⟩) 3 c, .string s] w fun e w' => e = .returned (.string (x ++ s ++ y ++ s ++ z)) ∧ Below w.heap.size w w' := by
  have h := Any.strings_Join Tryd.laysJoin extra156 bk o c [x, y, z] s w hcells hbk (by simp) hc (by rw [join_len]; omega)
  rw [fJoin, join3eq] at h
  exact h
end Go.Proofs.YtkgkdpjjlkpbfaaDoor.Sh
end
section
namespace Go.Proofs.YtkgkdpjjlkpbfaaDoor.Sh
open Go Go.Proofs
theorem fn31 : FnOk Tryd.prog 31 Tryd.f31 (bodyOf Tryd.f31) := ⟨Tryd.func31, rfl, by rfl⟩
theorem fn26 : FnOk Tryd.prog 26 Tryd.f26 (bodyOf Tryd.f26) := ⟨Tryd.func26, rfl, by rfl⟩
open Go.RowKit
theorem fr_of {w w' : World} (h : Below w.heap.size w w') : Fr nowhere w w' := ⟨h.os, h.tape, h.output, h.size, fun k hk _ => h.block k hk⟩
def s31 : Spec := fun args H => match args with
  | [.c (.s e), .c (.i .i64 c)] => some (.c (.s fun _ => zerosT c.val.toNat), H, [fun _ => e () = ({ data := #[48] } : ByteArray) ∧ 0 ≤ c.val ∧ c.val ≤ 8])
  | _ => none
theorem ok31 : Ok Tryd.prog 31 s31 := by
  intro args H v H' o hs ho μ W w vs hW hH hr
  unfold s31 at hs
  split at hs
  · rename_i e c
    cases hs
    match vs, hr with
    | [x, y], hr =>
      obtain ⟨hx, hy, _⟩ := hr
      obtain ⟨he, h0, h8⟩ := ho.one
      have hx : x = .string (e ()) := hx
      have hy : y = .int .i64 c.val := hy
      rw [he] at hx
      subst hx hy
      obtain ⟨m, hm⟩ : ∃ m : Nat, m = c.val.toNat := ⟨_, rfl⟩
      have hc : c.val = (m : Int) := by omega
      have hz : zerosT c.val.toNat = zerosT m := by rw [hm]
      have k := rep_calls w m (by omega)
      rw [← hc] at k
      exact .inl ⟨callFunc_run fn31 _ _, k.mono fun e' w' ⟨h1, h2⟩ => ⟨_, h1, μ, agree.refl _ _, Nat.le_refl _, hH.quiet (fr_of h2), by rw [hz]; rfl, (fr_of h2).mono fun _ _ h => h.elim⟩⟩
  · cases hs
def join3 (x y z s : ByteArray) : ByteArray := x ++ s ++ y ++ s ++ z
def s26 : Spec := fun args H => match args, H with
  | [.c (.sl 0 (.l 0) (.l 3)), .c (.s sp)], [some ⟨r, es, .lit [.s x, .s y, .s z]⟩] => some (.c (.s fun _ => join3 (x ()) (y ()) (z ()) (sp ())), [some ⟨r, es, .lit [.s x, .s y, .s z]⟩], [fun _ => (x ()).size ≤ 100 ∧ (y ()).size ≤ 100 ∧ (z ()).size ≤ 100 ∧ (sp ()).size ≤ 100])
  | _, _ => none
theorem ok26 : Ok Tryd.prog 26 s26 := by
  intro args H v H' o hs ho μ W w vs hW hH hr
  unfold s26 at hs
  split at hs
  · rename_i sp r es x y z
    cases hs
    match vs, hr with
    | [u, t], hr =>
      obtain ⟨hu, ht, _⟩ := hr
      obtain ⟨hb, cap, a, g1, g2, g3, hu⟩ := hu
      have ht : t = .string (sp ()) := ht
      subst hu ht
      obtain ⟨c, e, lo, hi, hg, hc, _⟩ := (hH.blk 0 _ rfl).out
      have g1 : 3 ≤ cap := g1
      have ha : a = addrOf (μ 0) 0 := by
        rcases g3 with g3 | g3
        · omega
        · exact g3
      have hcell : ∀ j, j < 3 → ∀ q, ([x (), y (), z ()] : List ByteArray)[j]? = some q → w.cell? ⟨(μ 0).blk, (μ 0).base + j, none⟩ = some (.string q) := fun j hj q hq => by
        have key : ∀ (e : Unit → ByteArray), (Cells.lit [.s x, .s y, .s z]).at j = some (.s e) → q = e () → w.cell? ⟨(μ 0).blk, (μ 0).base + j, none⟩ = some (.string q) := fun e he hqe => by
          obtain ⟨v', hv', r'⟩ := hc j _ he
          have r' : v' = .string (e ()) := r'
          have := cell_addr (L := μ 0) (o := j) hg
          rw [show (⟨(μ 0).blk, (μ 0).base + j, none⟩ : Addr) = addrOf (μ 0) j from rfl, this, hv', r', hqe]
        match j, hj with
        | 0, _ => exact key x rfl (by simpa using hq.symm)
        | 1, _ => exact key y rfl (by simpa using hq.symm)
        | 2, _ => exact key z rfl (by simpa using hq.symm)
      have hlt : (μ 0).blk < w.heap.size := (hH.blk 0 _ rfl).lt
      obtain ⟨z1, z2, z3, z4⟩ := ho.one
      have k := join_calls w (μ 0).blk (μ 0).base cap (x ()) (y ()) (z ()) (sp ()) (fun j q hq => hcell j (lt_of_get hq) q hq) hlt g1 z1 z2 z3 z4
      rw [ha]
      exact .inl ⟨callFunc_run fn26 _ _, k.mono fun e' w' ⟨h1, h2⟩ => ⟨_, h1, μ, agree.refl _ _, Nat.le_refl _, hH.quiet (fr_of h2), rfl, (fr_of h2).mono fun _ _ h => h.elim⟩⟩
  · cases hs
end Go.Proofs.YtkgkdpjjlkpbfaaDoor.Sh
end
section
namespace Go.Proofs.YtkgkdpjjlkpbfaaDoor.Sh
open Go Go.Proofs
theorem nanT : ({ data := #[55, 102, 99, 48, 48, 48, 48, 48] } : ByteArray) = hexT 2143289344 := by decide +kernel
attribute [local irreducible] hexT hexM zerosT
theorem fn25 : FnOk Tryd.prog 25 Tryd.f25 (bodyOf Tryd.f25) := ⟨Tryd.func25, rfl, by rfl⟩
def s25 : Spec := hspec fun args H => match args, H with
  | [.c (.f .f32 a)], [] => some (.c (.s fun _ => numT (a ())), [], [fun _ => a () < 4294967296])
  | _, _ => none
def E25 : Env := fun g => envGetL [(29, ⟨true, s29, none⟩), (30, ⟨true, s30, none⟩), (31, ⟨true, s31, none⟩)] g
theorem E25ok : EnvOk Tryd.prog E25 := envOk_cons ok29 (envOk_cons ok30 (envOk_cons ok31 (envOk_nil _)))
set_option maxRecDepth 100000 in
set_option maxHeartbeats 2000000 in
theorem ok25 : Ok Tryd.prog 25 (s25) := ok_of_wpaH (E := E25) mixed tts E25ok fn25 fun args H v H' o hs ho => by
  split at hs
  · rename_i a
    cases hs
    have ha : a ⟨⟩ < 4294967296 := ho.one
    refine ⟨_, HLe.refl _, ?_⟩
    cbv
    rcases bool_ft (isNan (a ⟨⟩)) with h | h
    · have hbx := bits_f h
      have hw : IntKind.wrap .u64 ((a ⟨⟩ : Nat) : Int) = ((a ⟨⟩ : Nat) : Int) := wrapU64 (Int.natCast_nonneg _) (by omega)
      have hn := nd_8 ha
      have e1 : 0 ≤ IntKind.wrap .u64 ((a ⟨⟩ : Nat) : Int) ∧ IntKind.wrap .u64 ((a ⟨⟩ : Nat) : Int) < 4294967296 := by rw [hw]; exact ⟨Int.natCast_nonneg _, by omega⟩
      have hm : hexM (IntKind.wrap .u64 ((a ⟨⟩ : Nat) : Int)).toNat = hexM (a ⟨⟩) := by rw [hw]; rfl
      have hc : IntKind.wrap .i64 (8 - (((hexM (IntKind.wrap .u64 ((a ⟨⟩ : Nat) : Int)).toNat).size : Nat) : Int)) = ((8 - nd (a ⟨⟩) : Nat) : Int) := by
        rw [hm, hexM_size, wrap64 (by omega) (by omega)]; omega
      have e2 : ({ data := #[48] } : ByteArray) = ({ data := #[48] } : ByteArray) ∧ 0 ≤ IntKind.wrap .i64 (8 - (((hexM (IntKind.wrap .u64 ((a ⟨⟩ : Nat) : Int)).toNat).size : Nat) : Int)) ∧ IntKind.wrap .i64 (8 - (((hexM (IntKind.wrap .u64 ((a ⟨⟩ : Nat) : Int)).toNat).size : Nat) : Int)) ≤ 8 := by
        rw [hc]; exact ⟨rfl, Int.natCast_nonneg _, by omega⟩
      have e3 : zerosT (IntKind.wrap .i64 (8 - (((hexM (IntKind.wrap .u64 ((a ⟨⟩ : Nat) : Int)).toNat).size : Nat) : Int))).toNat ++ hexM (IntKind.wrap .u64 ((a ⟨⟩ : Nat) : Int)).toNat = numT (a ⟨⟩) := by
        rw [hc, hm, Int.toNat_natCast, pad ha]; show _ = hexT (bitsX (a ⟨⟩)); rw [hbx]
      have e4 : (zerosT (IntKind.wrap .i64 (8 - (((hexM (IntKind.wrap .u64 ((a ⟨⟩ : Nat) : Int)).toNat).size : Nat) : Int))).toNat).size + (hexM (IntKind.wrap .u64 ((a ⟨⟩ : Nat) : Int)).toNat).size ≤ 9223372036854775807 := by
        have := hexT_size (bitsX (a ⟨⟩))
        rw [← ByteArray.size_append, e3]; show (hexT (bitsX (a ⟨⟩))).size ≤ _; rw [this]; decide
      refine Br.f h ?_
      cbv
      repeat' (refine Ob.mk ?_ ?_; (focus (first | with_reducible rfl | exact h | exact ⟨rfl, e1⟩ | exact e2 | exact e4 | exact e3)); cbv)
    · have e1 : ({ data := #[55, 102, 99, 48, 48, 48, 48, 48] } : ByteArray) = numT (a ⟨⟩) := by rw [nanT]; show _ = hexT (bitsX (a ⟨⟩)); rw [bits_t h]
      refine Br.t h ?_
      cbv
      repeat' (refine Ob.mk ?_ ?_; (focus (first | exact e1)); cbv)
  · cases hs
end Go.Proofs.YtkgkdpjjlkpbfaaDoor.Sh
end
section
namespace Go.Proofs.YtkgkdpjjlkpbfaaDoor.Sh
open Go Go.Proofs
def nrmL : V → V
  | .c (.b e) => .c (.b (.x fun _ => e.val))
  | .c (.i k e) => .c (.i k (.x fun _ => e.val))
  | .c (.p b o) => .c (.p b (.x fun _ => o.val))
  | v => v
theorem nrmL_ok {μ : Nat → Loc} {N : Nat} {x : V} {v : Value} (h : relV μ N x v) : relV μ N (nrmL x) v := by
  unfold nrmL
  split <;> exact h
theorem start_okL {μ : Nat → Loc} {W : Nat → Prop} {w : World} {args : List V} {H H1 : Heap} {vs : List Value} (hW : Wide W w) (hH : HRel μ W H w) (hr : relL (relV μ H.length) args vs) (hl : HLe H H1) {n : Nat} :
    St μ H.length W w (args.map nrmL ++ List.replicate (n - args.length) .n) H1 { tmps := vs.toArray ++ Array.replicate (n - vs.toArray.size) undef, defers := [] } w := by
  have hlen : H.length = H1.length := relL.len hl
  refine ⟨μ, agree.refl _ _, Nat.le_of_eq hlen, ?_, rfl, hH.le hl, Fr.refl _ _, hW⟩
  unfold relA
  have e : (vs.toArray ++ Array.replicate (n - vs.toArray.size) undef).toList = vs ++ List.replicate (n - args.length) undef := by
    simp [hr.len]
  show relL _ _ (vs.toArray ++ Array.replicate (n - vs.toArray.size) undef).toList
  rw [e, ← hlen]
  have h1 := hr.map (T := relV μ H.length) nrmL id fun a b _ hr => nrmL_ok hr
  rw [List.map_id] at h1
  exact h1.append (relL.replicate (R := relV μ H.length) (a := V.n) (b := undef) rfl _)
/-- a spec that does not see whole numbers and places written out, but sees how long a row is -/
def lspec (s : Spec) : Spec := fun args H => s (args.map nrmL) H
theorem ok_of_wpaL {P : Program} {tt : TT} {E : Env} (hm : P.follows .mixedOrders = true) (htt : TtOk P tt) (hE : EnvOk P E) {g : Nat} {fn : Func} {c : Code} (hf : FnOk P g fn c) {s : Spec}
    (h : ∀ args H v H' o, s args H = some (v, H', o) → holds o →
      ∃ H1, HLe H H1 ∧ wpa ⟨tt, E, H.length⟩ c (finE tt fn.results.toList H.length v H') (args ++ List.replicate (fn.ntmps - args.length) .n) H1) : Ok P g (lspec s) := by
  intro args H v H' o hs ho μ W w vs hW hH hr
  refine .inl ⟨callFunc_run hf _ _, calls_of_wp hf.at_ hf.body ?_⟩
  obtain ⟨H1, hl, hwp⟩ := h _ H v H' o hs ho
  rw [List.length_map] at hwp
  exact wpa_ok (c := ⟨tt, E, H.length⟩) hm htt hE hwp (start_okL hW hH hr hl) (fin_post htt)
attribute [local irreducible] hexT lineT textW bitsX webOk join3
theorem fn14 : FnOk Tryd.prog 14 Tryd.f14 (bodyOf Tryd.f14) := ⟨Tryd.func14, rfl, by rfl⟩
def s14 : Spec := lspec fun args H => match args, H with
  | [.c (.sl 0 (.l 0) (.l 3))], [some ⟨false, 0, .lit [.f .f32 a, .f .f32 b, .f .f32 c]⟩] => some (.c (.s fun _ => join3 (numT (a ())) (numT (b ())) (numT (c ())) spT), [none], [fun _ => a () < 4294967296 ∧ b () < 4294967296 ∧ c () < 4294967296])
  | _, _ => none
def E14 : Env := fun g => envGetL [(25, ⟨true, s25, none⟩), (26, ⟨true, s26, none⟩)] g
theorem E14ok : EnvOk Tryd.prog E14 := envOk_cons ok25 (envOk_cons ok26 (envOk_nil _))
set_option maxRecDepth 100000 in
set_option maxHeartbeats 2000000 in
theorem ok14 : Ok Tryd.prog 14 (s14) := ok_of_wpaL (E := E14) mixed tts E14ok fn14 fun args H v H' o hs ho => by
  split at hs
  · rename_i a b c
    cases hs
    obtain ⟨ha, hb, hc⟩ := ho.one
    have hz : (numT (a ⟨⟩)).size ≤ 100 ∧ (numT (b ⟨⟩)).size ≤ 100 ∧ (numT (c ⟨⟩)).size ≤ 100 ∧ spT.size ≤ 100 := by rw [numT_size, numT_size, numT_size]; decide
    refine ⟨_, HLe.refl _, ?_⟩
    cbv
    repeat' first
      | (refine Ob.mk ?_ ?_; (focus (first | with_reducible rfl | with_reducible exact ha | with_reducible exact hb | with_reducible exact hc | with_reducible exact hz | exact ha | exact hb | exact hc | exact hz | exact rfl | decide | trace_state)); cbv)
      | (refine Loop.mk 70 ?_; cbv)
      | (refine Gen.same ?_; cbv)
  · cases hs
end Go.Proofs.YtkgkdpjjlkpbfaaDoor.Sh
end
section
namespace Go.Proofs.YtkgkdpjjlkpbfaaDoor.Sh
open Go Go.Proofs
theorem line_join (a b c : Nat) : join3 (numT a) (numT b) (numT c) spT ++ nlT = lineT a b c := rfl
theorem join_size (a b c : Nat) : (join3 (numT a) (numT b) (numT c) spT).size = 26 := by
  unfold join3
  simp only [ByteArray.size_append, numT_size, spT_size]
attribute [local irreducible] hexT lineT textW bitsX webOk join3
theorem fn7 : FnOk Tryd.prog 7 Tryd.f7 (bodyOf Tryd.f7) := ⟨Tryd.func7, rfl, by rfl⟩
def s7 : Spec := hspec fun args H => match args, H with
  | [.a [.f .f32 st, .f .f32 sp, .f .f32 fd, .sl 0 (.x o) (.x n)]], [some ⟨false, 0, x⟩] => match x.toFl with
    | some l => some (.c (.s fun _ => (if webOk (st ()) (sp ()) (fd ()) (l ()) (n ()) = true then textW (st ()) (sp ()) (fd ()) (l ()) (n ()) else ByteArray.empty)), [none], [fun _ => o () = 0 ∧ (l ()).length = 3 * n () ∧ n () ≤ 1048576 ∧ (st () < 4294967296 ∧ sp () < 4294967296 ∧ fd () < 4294967296) ∧ wordsOk (l ())])
    | _ => none
  | _, _ => none
def E7 : Env := fun g => envGetL [(13, ⟨true, s13, none⟩), (14, ⟨true, s14, none⟩)] g
theorem E7ok : EnvOk Tryd.prog E7 := envOk_cons ok13 (envOk_cons ok14 (envOk_nil _))
set_option maxRecDepth 100000 in
set_option maxHeartbeats 4000000 in
theorem ok7 : Ok Tryd.prog 7 (s7) := ok_of_wpaH (E := E7) mixed tts E7ok fn7 fun args H v H' o hs ho => by
  split at hs
  · rename_i st sp fd o n x
    split at hs
    · rename_i l hl
      cases hs
      have hwb := ho.one
      obtain ⟨ho0, hlen, hbig, hw, hwl⟩ := id hwb
      have ho0 : o ⟨⟩ = 0 := ho0
      have hlen : (l ⟨⟩).length = 3 * n ⟨⟩ := hlen
      have hbig : n ⟨⟩ ≤ 1048576 := hbig
      have hw : st ⟨⟩ < 4294967296 ∧ sp ⟨⟩ < 4294967296 ∧ fd ⟨⟩ < 4294967296 := hw
      have hwl : wordsOk (l ⟨⟩) := hwl
      have hz0 : ∀ a b c : Nat, (join3 (numT a) (numT b) (numT c) spT).size + nlT.size ≤ 9223372036854775807 := fun a b c => by rw [join_size]; decide
      have htx0 : join3 (numT (st ⟨⟩)) (numT (sp ⟨⟩)) (numT (fd ⟨⟩)) spT ++ nlT = textW (st ⟨⟩) (sp ⟨⟩) (fd ⟨⟩) (l ⟨⟩) 0 := (line_join _ _ _).trans (textW_0 _ _ _ _)
      refine ⟨_, HLe.cons (BLe.fl hl) HLe.nil, ?_⟩
      cbv
      repeat' (refine Ob.mk ?_ ?_; (focus (first | exact ⟨ho0, hlen, hbig⟩ | exact rfl)); cbv)
      rcases bool_ft (webOk (st ⟨⟩) (sp ⟨⟩) (fd ⟨⟩) (l ⟨⟩) (n ⟨⟩)) with h | h
      · have e1 : ByteArray.empty = (if webOk (st ⟨⟩) (sp ⟨⟩) (fd ⟨⟩) (l ⟨⟩) (n ⟨⟩) = true then textW (st ⟨⟩) (sp ⟨⟩) (fd ⟨⟩) (l ⟨⟩) (n ⟨⟩) else ByteArray.empty) := by rw [h]; rfl
        refine Br.t (nft h) ?_
        cbv
        repeat' (refine Ob.mk ?_ ?_; (focus (first | exact e1 | exact rfl)); cbv)
      · refine Br.f (ntf h) ?_
        cbv
        repeat' (refine Ob.mk ?_ ?_; (focus (first | with_reducible exact hw | with_reducible exact hz0 _ _ _ | exact hw | exact hz0 _ _ _ | exact rfl)); cbv)
        refine loop_rule (α := Unit → Nat) (c := ⟨tt, E7, 1⟩)
            (fun i => fr 38 [(3, .c (.s fun _ => textW (st ()) (sp ()) (fd ()) (l ()) (i ()))), (19, .c (.sl 0 (.x o) (.x n))), (20, .c (.i .i64 (.x fun _ => (n () : Int)))), (21, .c (.i .i64 (.x fun _ => (i () : Int))))]) (fun i => [some ⟨false, 0, .fl l⟩])
            (fun i => i () ≤ n ()) (fun i => n () - i ()) (fun _ => n () + 1) ?_ ?_
        · refine .mk (fun _ => 0) (Nat.zero_le _) (by dsimp only; omega) ?_
          cbv
          repeat' (refine Ob.mk ?_ ?_; (focus (first | with_reducible rfl | exact htx0 | exact True.intro | exact rfl)); cbv)
        · intro i hi
          have hi : i ⟨⟩ ≤ n ⟨⟩ := hi
          cbv
          by_cases hin : i ⟨⟩ < n ⟨⟩
          · have hx : 0 ≤ ((i ⟨⟩ : Nat) : Int) ∧ ((i ⟨⟩ : Nat) : Int) < ((n ⟨⟩ : Nat) : Int) := by omega
            have k0 : o ⟨⟩ + i ⟨⟩ * 3 < (l ⟨⟩).length := by omega
            have k1 : o ⟨⟩ + i ⟨⟩ * 3 + 1 < (l ⟨⟩).length := by omega
            have k2 : o ⟨⟩ + i ⟨⟩ * 3 + 2 < (l ⟨⟩).length := by omega
            have k2' : o ⟨⟩ + i ⟨⟩ * 3 + 1 + 1 < (l ⟨⟩).length := by omega
            have hlt : (l ⟨⟩).getD (o ⟨⟩ + i ⟨⟩ * 3) 0 < 4294967296 ∧ (l ⟨⟩).getD (o ⟨⟩ + i ⟨⟩ * 3 + 1) 0 < 4294967296 ∧ (l ⟨⟩).getD (o ⟨⟩ + i ⟨⟩ * 3 + 1 + 1) 0 < 4294967296 := ⟨word_at hwl _, word_at hwl _, word_at hwl _⟩
            have hz : (textW (st ⟨⟩) (sp ⟨⟩) (fd ⟨⟩) (l ⟨⟩) (i ⟨⟩)).size + (join3 (numT ((l ⟨⟩).getD (o ⟨⟩ + i ⟨⟩ * 3) 0)) (numT ((l ⟨⟩).getD (o ⟨⟩ + i ⟨⟩ * 3 + 1) 0)) (numT ((l ⟨⟩).getD (o ⟨⟩ + i ⟨⟩ * 3 + 1 + 1) 0)) spT ++ nlT).size ≤ 9223372036854775807 := by rw [line_join, textW_size, lineT_size]; omega
            have hnx : textW (st ⟨⟩) (sp ⟨⟩) (fd ⟨⟩) (l ⟨⟩) (i ⟨⟩) ++ (join3 (numT ((l ⟨⟩).getD (o ⟨⟩ + i ⟨⟩ * 3) 0)) (numT ((l ⟨⟩).getD (o ⟨⟩ + i ⟨⟩ * 3 + 1) 0)) (numT ((l ⟨⟩).getD (o ⟨⟩ + i ⟨⟩ * 3 + 1 + 1) 0)) spT ++ nlT) = textW (st ⟨⟩) (sp ⟨⟩) (fd ⟨⟩) (l ⟨⟩) (i ⟨⟩ + 1) := by
              rw [line_join, ho0, Nat.zero_add]; exact textW_s _ _ _ _ _
            have hwi : IntKind.wrap .i64 (((i ⟨⟩ : Nat) : Int) + 1) = ((i ⟨⟩ + 1 : Nat) : Int) := wrap64_nat (by omega)
            have hme : n ⟨⟩ - (i ⟨⟩ + 1) < n ⟨⟩ - i ⟨⟩ := by omega
            have hle : i ⟨⟩ + 1 ≤ n ⟨⟩ := hin
            refine Br.t (ltB_iff.2 (Int.ofNat_lt.2 hin)) ?_
            cbv
            repeat' first
              | (refine Ob.mk ?_ ?_; (focus (first | with_reducible rfl | ((try dsimp only [IE.val, NE.val, IE.nat]); (try simp only [Int.toNat_natCast, Nat.add_zero]); first | with_reducible exact hx | with_reducible exact k0 | with_reducible exact k1 | with_reducible exact k2 | with_reducible exact k2' | with_reducible exact hlt | with_reducible exact hz0 _ _ _ | with_reducible exact hz | with_reducible exact hnx | with_reducible exact hwi | with_reducible rfl | exact hx | exact hlt | exact hz0 _ _ _ | exact hz | exact hnx | exact hwi | exact rfl | trace_state))); cbv)
              | (refine Next.mk (fun _ => i () + 1) hle hme ?_; cbv)
          · have hend : i ⟨⟩ = n ⟨⟩ := by omega
            have htx : textW (st ⟨⟩) (sp ⟨⟩) (fd ⟨⟩) (l ⟨⟩) (i ⟨⟩) = (if webOk (st ⟨⟩) (sp ⟨⟩) (fd ⟨⟩) (l ⟨⟩) (n ⟨⟩) = true then textW (st ⟨⟩) (sp ⟨⟩) (fd ⟨⟩) (l ⟨⟩) (n ⟨⟩) else ByteArray.empty) := by rw [hend, h]; rfl
            refine Br.f (ltB_no.2 (fun h => hin (Int.ofNat_lt.1 h))) ?_
            cbv
            repeat' (refine Ob.mk ?_ ?_; (focus (first | exact htx | exact rfl)); cbv)
    · cases hs
  · cases hs
end Go.Proofs.YtkgkdpjjlkpbfaaDoor.Sh
end
section
namespace Go.Proofs.YtkgkdpjjlkpbfaaDoor.Sh
open Go Go.Proofs
theorem eqT (a : ByteArray) : (!(a.toList == a.toList)) = false := by simp
attribute [local irreducible] hexT lineT textW bitsX webOk join3 sameW sameSps
theorem fn3 : FnOk Tryd.prog 3 Tryd.f3 (bodyOf Tryd.f3) := ⟨Tryd.func3, rfl, by rfl⟩
def s3 : Spec := hspec fun args H => match args, H with
  | [.a [.f .f32 st, .f .f32 sp, .f .f32 fd, .sl 0 (.x o) (.x n)]], [some ⟨false, 0, x⟩] => match x.toFl with
    | some l => some (.c (.b (.l true)), [none], [fun _ => o () = 0 ∧ (l ()).length = 3 * n () ∧ n () ≤ 9223372036854775807 ∧ (st () < 4294967296 ∧ sp () < 4294967296 ∧ fd () < 4294967296) ∧ wordsOk (l ())])
    | _ => none
  | [.a [.f .f32 st, .f .f32 sp, .f .f32 fd, .sn]], [] => some (.c (.b (.l true)), [], [fun _ => st () < 4294967296 ∧ sp () < 4294967296 ∧ fd () < 4294967296])
  | _, _ => none
def E3 : Env := fun g => envGetL [(4, ⟨true, s4, none⟩), (6, ⟨true, s6, none⟩), (5, ⟨true, s5, none⟩), (7, ⟨true, s7, none⟩), (8, ⟨true, s8, none⟩)] g
theorem E3ok : EnvOk Tryd.prog E3 := envOk_cons ok4 (envOk_cons ok6 (envOk_cons ok5 (envOk_cons ok7 (envOk_cons ok8 (envOk_nil _)))))
set_option maxRecDepth 100000 in
set_option maxHeartbeats 4000000 in
theorem ok3 : Ok Tryd.prog 3 (s3) := ok_of_wpaH (E := E3) mixed tts E3ok fn3 fun args H v H' o hs ho => by
  split at hs
  · rename_i st sp fd o n x
    split at hs
    · rename_i l hl
      cases hs
      obtain ⟨ho0, hlen, hbig, hb, hwl⟩ := ho.one
      have ho0 : o ⟨⟩ = 0 := ho0
      have hlen : (l ⟨⟩).length = 3 * n ⟨⟩ := hlen
      have hbig : n ⟨⟩ ≤ 9223372036854775807 := hbig
      have hb : st ⟨⟩ < 4294967296 ∧ sp ⟨⟩ < 4294967296 ∧ fd ⟨⟩ < 4294967296 := hb
      have hwl : wordsOk (l ⟨⟩) := hwl
      refine ⟨_, HLe.cons (BLe.fl hl) HLe.nil, ?_⟩
      cbv
      refine Ob.mk ⟨by decide, by decide, hbig⟩ ?_
      cbv
      refine Br.mk (fun hz => ?_) (fun hz => ?_)
      · cbv
        repeat' (refine Ob.mk ?_ ?_; rotate_left; cbv)
        all_goals (try simp only [Unit.unit, Int.ofNat_lt, Int.ofNat_le, BE.val, IE.val, NE.val, ltB_iff, ltB_no, leB_iff, leB_no, Int.toNat_natCast, Nat.zero_add, Nat.add_zero, Nat.mul_one, forced, beq_iff_eq, beq_eq_false_iff_ne, bne_iff_ne, bne_eq_false_iff_eq] at *)
        all_goals first | with_reducible rfl | trivial
      · have hn : n ⟨⟩ ≤ 1048576 := sz_ok (ltB_no.1 hz)
        have hw : o ⟨⟩ = 0 ∧ (l ⟨⟩).length = 3 * n ⟨⟩ ∧ n ⟨⟩ ≤ 1048576 := ⟨ho0, hlen, hn⟩
        have hw0 : (0 : Nat) = 0 ∧ (l ⟨⟩).length = 3 * n ⟨⟩ ∧ n ⟨⟩ ≤ 1048576 := ⟨rfl, hlen, hn⟩
        have hwb : (0 : Nat) = 0 ∧ (l ⟨⟩).length = 3 * n ⟨⟩ ∧ n ⟨⟩ ≤ 1048576 ∧ (st ⟨⟩ < 4294967296 ∧ sp ⟨⟩ < 4294967296 ∧ fd ⟨⟩ < 4294967296) ∧ wordsOk (l ⟨⟩) := ⟨rfl, hlen, hn, hb, hwl⟩
        clear hz
        cbv
        have hq : (sameW (st ⟨⟩) (sp ⟨⟩) (fd ⟨⟩) (st ⟨⟩) (sp ⟨⟩) (fd ⟨⟩) && (((n ⟨⟩) : Nat) == (n ⟨⟩) && sameSps (l ⟨⟩) (l ⟨⟩) (n ⟨⟩))) = true := by rw [sameW_self, sameSps_self, beq_self_eq_true]; rfl
        repeat' first
          | (refine Ob.mk ?_ ?_; (focus (first | with_reducible rfl | exact hw | exact hwb | exact hw0 | exact rfl)); cbv)
        refine Br.f (eqT _) ?_
        cbv
        repeat' first
          | (refine Ob.mk ?_ ?_; (focus (first | with_reducible rfl | exact hw | exact hwb | exact hw0 | exact rfl)); cbv)
          | (refine Lex.all ?_; cbv)
          | (refine Both.mk ?_ ?_ <;> cbv)
          | (refine Br.f (ntf hq) ?_; cbv)
    · cases hs
  · rename_i st sp fd
    cases hs
    have hb : st ⟨⟩ < 4294967296 ∧ sp ⟨⟩ < 4294967296 ∧ fd ⟨⟩ < 4294967296 := ho.one
    have hw0 : (0 : Nat) = 0 ∧ ([] : List Nat).length = 3 * 0 ∧ 0 ≤ 1048576 := ⟨rfl, rfl, by decide⟩
    have hwb : (0 : Nat) = 0 ∧ ([] : List Nat).length = 3 * 0 ∧ 0 ≤ 1048576 ∧ (st ⟨⟩ < 4294967296 ∧ sp ⟨⟩ < 4294967296 ∧ fd ⟨⟩ < 4294967296) ∧ wordsOk [] := ⟨rfl, rfl, by decide, hb, fun x hx => by cases hx⟩
    refine ⟨_, HLe.nil, ?_⟩
    cbv
    refine Ob.mk ⟨by decide, by decide⟩ ?_
    cbv
    refine Br.mk (fun hz => ?_) (fun hz => ?_)
    · exact absurd (ltB_iff.1 hz) (by decide)
    · clear hz
      cbv
      have hq : (sameW (st ⟨⟩) (sp ⟨⟩) (fd ⟨⟩) (st ⟨⟩) (sp ⟨⟩) (fd ⟨⟩) && ((0 : Nat) == 0 && sameSps [] [] 0)) = true := by rw [sameW_self, sameSps_self, beq_self_eq_true]; rfl
      repeat' first
        | (refine Ob.mk ?_ ?_; (focus (first | with_reducible rfl | exact hwb | exact hw0 | exact rfl)); cbv)
      refine Br.f (eqT _) ?_
      cbv
      repeat' first
        | (refine Ob.mk ?_ ?_; (focus (first | with_reducible rfl | exact hwb | exact hw0 | exact rfl)); cbv)
        | (refine Lex.all ?_; cbv)
        | (refine Both.mk ?_ ?_ <;> cbv)
        | (refine Br.f (ntf hq) ?_; cbv)
  · cases hs
end Go.Proofs.YtkgkdpjjlkpbfaaDoor.Sh
end
