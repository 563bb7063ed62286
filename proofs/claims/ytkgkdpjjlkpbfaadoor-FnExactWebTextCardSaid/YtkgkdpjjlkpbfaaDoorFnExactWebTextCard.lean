/- FnExactWebText: the row and its card. No condition. -/
import Derived.Test.YtkgkdpjjlkpbfaaDoorVc
import Derived.Test.YtkgkdpjjlkpbfaaDoorRows
import Derived.Test.YtkgkdpjjlkpbfaaDoorCards
import Derived.Test.YtkgkdpjjlkpbfaaDoorTie
import Derived.WalkKit
import Derived.ProofKit
import Derived.OpenShut
import Derived.Deep.DeepHandedRow
import Derived.Lib.LaidTab
set_option linter.unusedVariables false
set_option linter.unusedSimpArgs false
set_option linter.unusedSectionVars false
section
namespace Go.Proofs.YtkgkdpjjlkpbfaaDoor
open Go Go.Proofs.YtkgkdpjjlkpbfaaDoor.Sh Go.ChangeShapes Go.WideShapes Go.RowKit
theorem own : ownKnob Tryd.prog.godebug = none := by kernel_rfl
theorem laid : laidOutB Tryd.prog = true := by kernel_rfl
@[irreducible] noncomputable def fs25 : Array Field := match Tryd.prog.underlying 25 with | some (.struct fs) => fs | _ => #[]
theorem u25 : Tryd.prog.underlying 25 = some (.struct fs25) := by kernel_rfl
theorem ct25 : Tryd.prog.cellTypes Tryd.prog.depth 25 = some [22, 22, 22, 23] := by kernel_rfl
theorem n25 : Tryd.prog.cellsOf 25 = 4 := by kernel_rfl
theorem k22c : kCell Tryd.prog 22 = some (.f .f32) := by kernel_rfl
theorem u23 : Tryd.prog.underlying 23 = some (.slice 50) := by kernel_rfl
theorem fb25 : (match fs25[3]? with | some f => Nat.beq f.type 23 && Nat.beq f.offset 3 | none => false) = true := by kernel_rfl
theorem c23 : Tryd.prog.cellsOf 23 = 1 := by kernel_rfl
theorem kT50 : kT Tryd.prog 3 50 = some [.f .f32, .f .f32, .f .f32] := by kernel_rfl
theorem c50 : Tryd.prog.cellsOf 50 = 3 := by kernel_rfl
/-! ## the table that the code reads -/
theorem tabLater {P : Program} {W : World} {n0 name : String} {d0 : DataW Unit} {k : IntKind} {zs : List Int} {rest : List (String × DataW Unit)} {g : Nat} {t e : TypeId} {n : Nat}
    (hg : P.globalNamed name = some g) (hty : (P.globals[g]?).map (·.type) = some t) (ht : P.underlying t = some (.array n e)) (he : P.underlying e = some (.int k)) (hce : P.cellsOf e = 1) (hct : P.cellsOf t = n)
    (h : laidMet P ((n0, d0) :: (name, Lib.tabData k zs) :: rest) W) : Lib.TabIs P W name k zs := by
  obtain ⟨ps, ⟨g0, t0, cs0, fuel0, p0, q0, _, _, _, _, ⟨g', t', cs, fuel, p, q, hg', ht', hvar, hd, _, _⟩, _⟩, _⟩ := h
  obtain rfl := Option.some.inj (hg.symm.trans hg')
  obtain rfl := Option.some.inj (hty.symm.trans ht')
  unfold Lib.TabIs
  rw [hvar, ← Lib.cells_of_tab ht he hce hct hd]
theorem g64 : Tryd.prog.globalNamed "math/bits.deBruijn64tab" = some 4 := by kernel_rfl
theorem g64t : (Tryd.prog.globals[4]?).map (·.type) = some 99 := by kernel_rfl
theorem u99 : Tryd.prog.underlying 99 = some (.array 64 5) := by kernel_rfl
theorem u5 : Tryd.prog.underlying 5 = some (.int .u8) := by kernel_rfl
theorem c5 : Tryd.prog.cellsOf 5 = 1 := by kernel_rfl
theorem c99 : Tryd.prog.cellsOf 99 = 64 := by kernel_rfl
theorem table {W : World} (h : laidMetH Tryd.prog Rows.fnExactWebTextRow.laid W) : W.cell? ⟨4, 15, none⟩ = some (.int .u8 4) :=
  (tabLater (zs := [0, 1, 56, 2, 57, 49, 28, 3, 61, 58, 42, 50, 38, 29, 17, 4, 62, 47, 59, 36, 45, 43, 51, 22, 53, 39, 33, 30, 24, 18, 12, 5, 63, 55, 48, 27, 60, 41, 37, 16, 46, 35, 44, 21, 52, 32, 23, 11, 54, 26, 40, 15, 34, 20, 31, 10, 25, 14, 19, 9, 13, 8, 7, 6]) (k := .u8) g64 g64t u99 u5 c5 c99 h).cell g64 15 (by decide)
theorem cell_lt {W : World} {b o : Nat} {v : Value} (h : W.cell? ⟨b, o, none⟩ = some v) : b < W.heap.size := by
  rcases Nat.lt_or_ge b W.heap.size with h' | h'
  · exact h'
  · unfold World.cell? at h
    simp [Array.getElem?_eq_none h'] at h
theorem htab {W : World} (h : laidMetH Tryd.prog Rows.fnExactWebTextRow.laid W) : ∀ t ∈ tabCells, t.1 < W.heap.size ∧ W.cell? ⟨t.1, t.2.1, none⟩ = some t.2.2 := fun t ht => by
  rw [show tabCells = [(4, 15, Value.int .u8 4)] from rfl, List.mem_singleton] at ht
  subst ht
  exact ⟨cell_lt (table h), table h⟩
theorem ls3 : LawSpec Rows.fnExactWebTextSpec Tryd.f3.params.size := by
  refine ⟨rfl, fun H ds h => ?_⟩
  rw [show Tryd.f3.params.size = 1 from rfl] at h
  match ds, h with
  | [_], _ => exact ⟨rfl, rfl, rfl⟩
set_option maxRecDepth 100000 in
theorem contract (H : Type) (enc : TypeId × Value → H) (W : World) (base : Nat) (args : Array Value) (ds gs : List (DataW H)) (before : List MemPlace)
    (hval : ∀ (j : Nat) t v, Tryd.f3.params[j]? = some t → args[j]? = some v → Value.okWide Tryd.prog W .any base t v)
    (hW : DataW.Whole enc Tryd.prog Tryd.f3.params.toList Rows.fnExactWebTextSpec.vars false W args.toList ds gs before) (hL : laidMetH Tryd.prog Rows.fnExactWebTextRow.laid W) :
    Calls Tryd.prog 3 args W fun e W' => ∃ v, e = .returned v ∧ Rows.fnExactWebTextSpec.post enc Tryd.prog Tryd.f3 false true false false W args v W' := by
  refine law_post fn3 ls3 (tb := 4) rfl (by kernel_rfl) (by kernel_rfl) laid ok3 (htab hL) hW ?_
  intro p hA
  have hl := (trodAll_len hA).2
  have hval' : ∀ (j : Nat) t v, Tryd.f3.params.toList[j]? = some t → args.toList[j]? = some v → Value.okWide Tryd.prog W .any base t v := fun j t v ht hv => hval j t v (by simpa using ht) (by simpa using hv)
  revert hl hval' hA
  generalize args.toList = al
  intro hA hl hval'
  rw [show Tryd.f3.params.toList = [25] from rfl] at hl hval' hA
  match al, hl with
  | [v0], _ =>
    obtain ⟨d0, p0, t0⟩ := trodAll_at hA 0 (t := 25) (v := v0) rfl rfl
    obtain ⟨a0, a1, a2, s0, rfl, b0, b1, b2, hv0, e0, q0, r0⟩ := web_openB (u := 22) (ts := 23) u25 ct25 n25 k22c u23 fb25 c23 (hval' 0 25 v0 rfl rfl) t0
    rcases floats_openB u23 kT50 (fun k hk => by simpa using hk) c50 hv0 r0 with rfl | ⟨loc0, L0, len0, hB0, hL0, hlen0, hw0, hs0⟩
    · exact ⟨[.a [.f .f32 fun _ => a0, .f .f32 fun _ => a1, .f .f32 fun _ => a2, .sn]], [], _, _, fun _ => ⟨0, 0, 0, 0⟩, rfl,
        holds_mk ⟨b0, b1, b2⟩, hrel_nil _ _ _, ⟨⟨_, rfl, ⟨_, rfl, .inl rfl⟩, ⟨_, rfl, .inl rfl⟩, ⟨_, rfl, .inl rfl⟩, rfl, trivial⟩, trivial⟩⟩
    · exact ⟨[.a [.f .f32 fun _ => a0, .f .f32 fun _ => a1, .f .f32 fun _ => a2, .sl 0 (.x fun _ => 0) (.x fun _ => len0)]], [some ⟨false, 0, .fl fun _ => L0⟩], _, _, fun _ => loc0, rfl,
        holds_mk ⟨rfl, by simp only [List.length_cons, List.length_nil] at hL0; show L0.length = 3 * len0; omega, hlen0, ⟨b0, b1, b2⟩, hw0⟩, hrel_ro1 hB0 rfl,
        ⟨⟨_, rfl, ⟨_, rfl, .inl rfl⟩, ⟨_, rfl, .inl rfl⟩, ⟨_, rfl, .inl rfl⟩, hs0 (fun _ => loc0) 1 0 (.x fun _ => len0) (by decide) rfl rfl, trivial⟩, trivial⟩⟩
/-! ## the row -/
noncomputable def modB (h : Array Obj) (b : Nat) (cs : Array Value) : Array Obj := h.modify b fun
  | .cells _ t frozen => .cells cs t frozen
  | o => o
noncomputable def laidWorld (os : Os) : World :=
  { World.holding Tryd.prog os ⟨#[], #[], []⟩ with heap := modB (modB (modB (World.holding Tryd.prog os ⟨#[], #[], []⟩).heap 3 #[.int .u8 0, .int .u8 1, .int .u8 28, .int .u8 2, .int .u8 29, .int .u8 14, .int .u8 24, .int .u8 3, .int .u8 30, .int .u8 22, .int .u8 20, .int .u8 15, .int .u8 25, .int .u8 17, .int .u8 4, .int .u8 8, .int .u8 31, .int .u8 27, .int .u8 13, .int .u8 23, .int .u8 21, .int .u8 19, .int .u8 16, .int .u8 7, .int .u8 26, .int .u8 12, .int .u8 18, .int .u8 6, .int .u8 11, .int .u8 5, .int .u8 10, .int .u8 9]) 4 #[.int .u8 0, .int .u8 1, .int .u8 56, .int .u8 2, .int .u8 57, .int .u8 49, .int .u8 28, .int .u8 3, .int .u8 61, .int .u8 58, .int .u8 42, .int .u8 50, .int .u8 38, .int .u8 29, .int .u8 17, .int .u8 4, .int .u8 62, .int .u8 47, .int .u8 59, .int .u8 36, .int .u8 45, .int .u8 43, .int .u8 51, .int .u8 22, .int .u8 53, .int .u8 39, .int .u8 33, .int .u8 30, .int .u8 24, .int .u8 18, .int .u8 12, .int .u8 5, .int .u8 63, .int .u8 55, .int .u8 48, .int .u8 27, .int .u8 60, .int .u8 41, .int .u8 37, .int .u8 16, .int .u8 46, .int .u8 35, .int .u8 44, .int .u8 21, .int .u8 52, .int .u8 32, .int .u8 23, .int .u8 11, .int .u8 54, .int .u8 26, .int .u8 40, .int .u8 15, .int .u8 34, .int .u8 20, .int .u8 31, .int .u8 10, .int .u8 25, .int .u8 14, .int .u8 19, .int .u8 9, .int .u8 13, .int .u8 8, .int .u8 7, .int .u8 6]) 1 #[.int .u64 1, .int .u64 10, .int .u64 100, .int .u64 1000, .int .u64 10000, .int .u64 100000, .int .u64 1000000, .int .u64 10000000, .int .u64 100000000, .int .u64 1000000000, .int .u64 10000000000, .int .u64 100000000000, .int .u64 1000000000000, .int .u64 10000000000000, .int .u64 100000000000000, .int .u64 1000000000000000, .int .u64 10000000000000000, .int .u64 100000000000000000, .int .u64 1000000000000000000, .int .u64 10000000000000000000] }
def wit : Value := .agg #[.float .f32 0, .float .f32 0, .float .f32 0, .slice none 0 0]
theorem laid_met (os : Os) : laidMet Tryd.prog Rows.fnExactWebTextRow.laid ((laidWorld os).forCall (fun _ _ => 0) ⟨#[], #[wit], []⟩).memory :=
  laidMet_of_run' 8 (by kernel_rfl) (by kernel_rfl)
theorem reads (os : Os) {H : Type} (enc : TypeId × Value → H) : ∃ places, DataW.whole enc Tryd.prog ((laidWorld os).forCall (fun _ _ => 0) ⟨#[], #[wit], []⟩).memory Tryd.f3.params.toList Rows.fnExactWebTextSpec.vars false #[wit].toList 8 = some ([.agg [.lit (.float .f32 0), .lit (.float .f32 0), .lit (.float .f32 0), .nil]], [], places) :=
  ⟨[], by kernel_rfl⟩
set_option maxRecDepth 100000 in
theorem lifted (os : Os) (started : os.Started) (H : Type) (enc : TypeId × Value → H) (F : Stop.Interp) :
    ReturnsInHanded {} Tryd.checked os 3 .any ((OpenSpec.ofChange Rows.fnExactWebTextSpec).preRow enc Tryd.prog Tryd.f3 Rows.fnExactWebTextRow.domain false Rows.fnExactWebTextRow.laid) (((OpenSpec.ofChange Rows.fnExactWebTextSpec).at F).post enc Tryd.prog Tryd.f3 false true false false) := by
  obtain ⟨places, hx⟩ := reads os enc
  refine returnsInHanded_of_row (C := Tryd.checked) (s := OpenSpec.ofChange Rows.fnExactWebTextSpec) own started (by kernel_rfl) Tryd.func3
    (witness_row_at (enc := enc) (C := Tryd.checked) false (laidWorld os) #[wit] rfl (by kernel_rfl) (by kernel_rfl) (by kernel_rfl)
      (OpenSpec.preRow_of_cond 8 hx (by kernel_rfl) (fun k hk => by cases hk) (by kernel_rfl) (laid_met os))) ?_
  intro W base args ds gs before hval hW _ _ _ hL _ _
  exact contract H enc W base args ds gs before hval hW hL
theorem said3 : Rows.FnExactWebTextSaid :=
  OpenClaim.holds_of_cond 3 Tryd.f3 rfl rfl rfl rfl rfl rfl rfl ⟨rfl, rfl, rfl, rfl, rfl⟩ rfl rfl rfl rfl rfl (by kernel_rfl) Tryd.func3 (by kernel_rfl)
    (of_decide_eq_true (by kernel_rfl)) (by unfold Func.isWrapper; first | (rw [if_pos (by decide +kernel)]; kernel_rfl) | (rw [if_neg (by decide +kernel)]; exact ⟨rfl, rfl⟩))
    (fun os started H enc _ F => by rw [OpenClaim.pre_eq_preRow]; exact lifted os started H enc F)
theorem plain (f : FuncId) (fn : Func) (hf : Tryd.pinned.checked.prog.funcNamed "loop.example/g01320/laws.FnExactWebText" = some f) (hfn : Tryd.pinned.checked.prog.funcs[f]? = some fn) :
    false = Tryd.pinned.checked.prog.looks [] ∧ ∀ (j : Nat) t, fn.params[j]? = some t → Tryd.pinned.checked.prog.wantsStandIn t = false := by
  obtain rfl : f = 3 := Option.some.inj ((show Tryd.prog.funcNamed "loop.example/g01320/laws.FnExactWebText" = some 3 by kernel_rfl).symm.trans hf) |>.symm
  obtain rfl : fn = Tryd.f3 := (Option.some.inj (Tryd.func3.symm.trans hfn)).symm
  refine ⟨by kernel_rfl, fun j t ht => ?_⟩
  rw [show Tryd.f3.params = #[25] from rfl] at ht
  obtain rfl : t = 25 := by simpa using Array.mem_of_getElem? ht
  exact (show Tryd.prog.wantsStandIn 25 = false by kernel_rfl)
theorem card3 : Rows.FnExactWebTextCardSaid :=
  Claim7.holds_tied_plain_at .later [] _ _ _ _ said3 (fun _ h => by cases h) (by kernel_rfl) (fun _ h => by cases h) fnExactWebText_row_tie rfl ⟨rfl, rfl⟩ (by kernel_rfl) rfl plain (by kernel_rfl)
end Go.Proofs.YtkgkdpjjlkpbfaaDoor
end
