/- FnMarks: the row and its card. No condition. -/
import Derived.Test.YteifneielgnniaaGreatDoorMia
import Derived.Test.YteifneielgnniaaGreatDoorMib
import Derived.Test.YteifneielgnniaaGreatDoorMic
import Derived.Test.YteifneielgnniaaGreatDoorMid
import Derived.Test.YteifneielgnniaaGreatDoorRows
import Derived.Test.YteifneielgnniaaGreatDoorCards
import Derived.Test.YteifneielgnniaaGreatDoorTie
import Derived.WalkKit
import Derived.ProofKit
import Derived.OpenShut
import Derived.LaidLaws
import Derived.Deep.DeepHandedRow
import Derived.Deep.DeepWitnessRowRef
import Derived.Shelf.Vars
import Derived.Lib.LaidTab
import Derived.Lib.LaidU8
set_option linter.unusedVariables false
set_option linter.unusedSimpArgs false
set_option linter.unusedSectionVars false
section
namespace Go.Proofs.YteifneielgnniaaGreatDoor.Sh
namespace Rg
open Go Go.Proofs
def sLaw4 : Spec := orSpec (orSpec sLaw4a sLaw4b) (orSpec sLaw4c sLaw4d)
theorem okL4 : Ok Tryz.prog 4 sLaw4 := ok_or (ok_or okMa okMb) (ok_or okMc okMd)
end Rg
end Go.Proofs.YteifneielgnniaaGreatDoor.Sh
end
section
namespace Go.Proofs.YteifneielgnniaaGreatDoor
open Go Go.Proofs.YteifneielgnniaaGreatDoor.Sh Go.ChangeShapes Go.WideShapes Go.RowKit
theorem own : ownKnob Tryz.prog.godebug = none := by kernel_rfl
theorem laid : laidOutB Tryz.prog = true := by kernel_rfl
/-! ## the cells of package variables that the code reads -/
theorem laid_at {P : Program} {w : World} : ∀ {l : List (String × DataW Unit)} {ps : List MemPlace} {n : String} {d : DataW Unit} (i : Nat), DataW.LaidVars P w l ps → l[i]? = some (n, d) →
    ∃ g t cs fuel p, P.globalNamed n = some g ∧ (P.globals[g]?).map (·.type) = some t ∧ w.var? P n = some cs ∧ DataW.trod (fun _ => ()) P w 0 (fun _ => true) false fuel t cs.toList = some (d, p)
  | [], _, _, _, i, _, h => by simp at h
  | (n', d') :: r, ps, n, d, 0, h, e => by
    obtain ⟨g, t, cs, fuel, p, q, h1, h2, h3, h4, _, _⟩ := h
    simp at e
    obtain ⟨rfl, rfl⟩ := e
    exact ⟨g, t, cs, fuel, p, h1, h2, h3, h4⟩
  | (n', d') :: r, ps, n, d, i + 1, h, e => by
    obtain ⟨g, t, cs, fuel, p, q, h1, h2, h3, h4, h5, _⟩ := h
    exact laid_at i h5 (by simpa using e)
theorem tab_at {P : Program} {W : World} {l : List (String × DataW Unit)} {name : String} {k : IntKind} {zs : List Int} {g : Nat} {t e : TypeId} {n : Nat} (i : Nat)
    (hg : P.globalNamed name = some g) (hty : (P.globals[g]?).map (·.type) = some t) (ht : P.underlying t = some (.array n e)) (he : P.underlying e = some (.int k)) (hce : P.cellsOf e = 1) (hct : P.cellsOf t = n)
    (h : laidMet P l W) (hi : l[i]? = some (name, Lib.tabData k zs)) : Lib.TabIs P W name k zs := by
  obtain ⟨ps, hl, _⟩ := h
  obtain ⟨g', t', cs, fuel, p, hg', ht', hvar, hd⟩ := laid_at i hl hi
  obtain rfl := Option.some.inj (hg.symm.trans hg')
  obtain rfl := Option.some.inj (hty.symm.trans ht')
  unfold Lib.TabIs
  rw [hvar, ← Lib.cells_of_tab ht he hce hct hd]
theorem iface_at {P : Program} {W : World} {l : List (String × DataW Unit)} {name tn : String} {d : DataW Unit} {g : Nat} {t : TypeId} {ms : Array (String × TypeId)} (i : Nat)
    (hg : P.globalNamed name = some g) (hty : (P.globals[g]?).map (·.type) = some t) (ht : P.underlying t = some (.interface ms)) (h : laidMet P l W) (hi : l[i]? = some (name, .iface tn d)) :
    ∃ u v, W.cell? ⟨g, 0, none⟩ = some (.iface u v) := by
  obtain ⟨ps, hl, _⟩ := h
  obtain ⟨g', t', cs, fuel, p, hg', ht', hvar, hd⟩ := laid_at i hl hi
  obtain rfl := Option.some.inj (hg.symm.trans hg')
  obtain rfl := Option.some.inj (hty.symm.trans ht')
  obtain ⟨_, u, v, hcs, _⟩ := iface_of_trod ht hd
  refine ⟨u, v, ?_⟩
  rw [World.var?_cell hg hvar 0]
  have : cs = #[.iface u v] := by
    apply Array.toList_inj.1
    rw [hcs]
  rw [this]; rfl
theorem g8 : Tryz.prog.globalNamed "math/bits.deBruijn64tab" = some 8 := by kernel_rfl
theorem g2 : Tryz.prog.globalNamed "strconv.ErrSyntax" = some 3 := by kernel_rfl
theorem g3 : Tryz.prog.globalNamed "strconv.ErrRange" = some 4 := by kernel_rfl
theorem g8t : (Tryz.prog.globals[8]?).map (·.type) = some 212 := by kernel_rfl
theorem g2t : (Tryz.prog.globals[3]?).map (·.type) = some 149 := by kernel_rfl
theorem g3t : (Tryz.prog.globals[4]?).map (·.type) = some 149 := by kernel_rfl
theorem u139 : Tryz.prog.underlying 212 = some (.array 64 5) := by kernel_rfl
theorem u5 : Tryz.prog.underlying 5 = some (.int .u8) := by kernel_rfl
theorem c5 : Tryz.prog.cellsOf 5 = 1 := by kernel_rfl
theorem c139 : Tryz.prog.cellsOf 212 = 64 := by kernel_rfl
theorem u73 : Tryz.prog.underlying 149 = some (.interface #[("Error", 152)]) := by kernel_rfl
theorem table {W : World} (h : laidMetH Tryz.prog Rows.fnMarksRow.laid W) : W.cell? ⟨8, 15, none⟩ = some (.int .u8 4) :=
  (tab_at (l := Rows.fnMarksRow.laid) (zs := [0, 1, 56, 2, 57, 49, 28, 3, 61, 58, 42, 50, 38, 29, 17, 4, 62, 47, 59, 36, 45, 43, 51, 22, 53, 39, 33, 30, 24, 18, 12, 5, 63, 55, 48, 27, 60, 41, 37, 16, 46, 35, 44, 21, 52, 32, 23, 11, 54, 26, 40, 15, 34, 20, 31, 10, 25, 14, 19, 9, 13, 8, 7, 6]) (k := .u8) 1 g8 g8t u139 u5 c5 c139 h rfl).cell g8 15 (by decide)
theorem cell_lt {W : World} {b o : Nat} {v : Value} (h : W.cell? ⟨b, o, none⟩ = some v) : b < W.heap.size := by
  rcases Nat.lt_or_ge b W.heap.size with h' | h'
  · exact h'
  · unfold World.cell? at h
    simp [Array.getElem?_eq_none h'] at h
theorem htab {W : World} (h : laidMetH Tryz.prog Rows.fnMarksRow.laid W) (hs : W.ShapedOpen Tryz.prog) : ∀ t ∈ tabCells, t.1 < W.heap.size ∧ ∃ v, W.cell? ⟨t.1, t.2.1, none⟩ = some v ∧ t.2.2 v := fun t ht => by
  obtain ⟨m, hm⟩ := cell_of_shapedOpen_int (g := 1) (t := 3) (zero := #[.int .i64 0]) (k := .i64) hs (of_decide_eq_true (by kernel_rfl)) (by kernel_rfl) rfl (by kernel_rfl) (by kernel_rfl) (by kernel_rfl)
  obtain ⟨u2, v2, h2⟩ := iface_at (l := Rows.fnMarksRow.laid) 5 g2 g2t u73 h rfl
  obtain ⟨u3, v3, h3⟩ := iface_at (l := Rows.fnMarksRow.laid) 4 g3 g3t u73 h rfl
  rw [show tabCells = [(8, 15, fun v => v = .int .u8 4), (1, 0, fun v => ∃ m, v = .int .i64 m), (3, 0, fun v => v = .nilIface ∨ ∃ t p, v = .iface t p), (4, 0, fun v => v = .nilIface ∨ ∃ t p, v = .iface t p)] from rfl] at ht
  simp only [List.mem_cons, List.not_mem_nil, or_false] at ht
  rcases ht with rfl | rfl | rfl | rfl
  · exact ⟨cell_lt (table h), _, table h, rfl⟩
  · exact ⟨cell_lt hm, _, hm, m, rfl⟩
  · exact ⟨cell_lt h2, _, h2, .inr ⟨_, _, rfl⟩⟩
  · exact ⟨cell_lt h3, _, h3, .inr ⟨_, _, rfl⟩⟩
theorem u22 : Tryz.prog.underlying 22 = some (.slice 5) := by kernel_rfl
theorem kT5 : kT Tryz.prog 1 5 = some [.i .u8] := by kernel_rfl
theorem ls4 : LawSpec Rows.fnMarksSpec Tryz.f4.params.size := by
  refine ⟨rfl, fun H ds h => ?_⟩
  rw [show Tryz.f4.params.size = 2 from rfl] at h
  match ds, h with
  | [_, _], _ => exact ⟨rfl, rfl, rfl⟩
theorem holds_two {p q : Unit → Prop} (h : p ()) (k : q ()) : holds [p, q] := fun r hr => by
  rcases List.mem_cons.1 hr with rfl | hr
  · exact h
  · rw [List.mem_singleton] at hr; subst hr; exact k
set_option maxRecDepth 100000 in
theorem contract (H : Type) (enc : TypeId × Value → H) (W : World) (base : Nat) (args : Array Value) (ds gs : List (DataW H)) (before : List MemPlace)
    (hval : ∀ (j : Nat) t v, Tryz.f4.params[j]? = some t → args[j]? = some v → Value.okWide Tryz.prog W .any base t v)
    (hW : DataW.Whole enc Tryz.prog Tryz.f4.params.toList Rows.fnMarksSpec.vars false W args.toList ds gs before) (hL : laidMetH Tryz.prog Rows.fnMarksRow.laid W) (hs : W.ShapedOpen Tryz.prog) :
    Calls Tryz.prog 4 args W fun e W' => ∃ v, e = .returned v ∧ Rows.fnMarksSpec.post enc Tryz.prog Tryz.f4 false true false false W args v W' := by
  refine law_post Rg.fn4 ls4 (tb := 4) rfl (by kernel_rfl) (by kernel_rfl) laid Rg.okL4 (htab hL hs) hW ?_
  intro p hA
  have hl := (trodAll_len hA).2
  have hval' : ∀ (j : Nat) t v, Tryz.f4.params.toList[j]? = some t → args.toList[j]? = some v → Value.okWide Tryz.prog W .any base t v := fun j t v ht hv => hval j t v (by simpa using ht) (by simpa using hv)
  revert hl hval' hA
  generalize args.toList = al
  intro hA hl hval'
  rw [show Tryz.f4.params.toList = [22, 22] from rfl] at hl hval' hA
  match al, hl with
  | [v0, v1], _ =>
    obtain ⟨d0, p0, t0⟩ := trodAll_at hA 0 (t := 22) (v := v0) rfl rfl
    obtain ⟨d1, p1, t1⟩ := trodAll_at hA 1 (t := 22) (v := v1) rfl rfl
    rcases ints_open u22 kT5 c5 (hval' 0 22 v0 rfl rfl) t0 with rfl | ⟨loc0, L0, len0, hB0, hL0, hlen0, hw0, hs0⟩
    · rcases ints_open u22 kT5 c5 (hval' 1 22 v1 rfl rfl) t1 with rfl | ⟨loc1, L1, len1, hB1, hL1, hlen1, hw1, hs1⟩
      · exact ⟨[.c .sn, .c .sn], [], _, _, fun _ => ⟨0, 0, 0, 0⟩, rfl,
          (fun q hq => by simp at hq), hrel_nil _ _ _, ⟨rfl, rfl, trivial⟩⟩
      · exact ⟨[.c .sn, .c (.sl 0 (.x fun _ => 0) (.x fun _ => len1))], [some ⟨false, 0, .it .u8 fun _ => L1⟩], _, _, fun _ => loc1, rfl,
          holds_mk ⟨rfl, hL1, hlen1, hw1⟩, hrel_ro1 hB1 rfl, ⟨rfl, hs1 (fun _ => loc1) 1 0 (.x fun _ => len1) (by decide) rfl rfl, trivial⟩⟩
    · rcases ints_open u22 kT5 c5 (hval' 1 22 v1 rfl rfl) t1 with rfl | ⟨loc1, L1, len1, hB1, hL1, hlen1, hw1, hs1⟩
      · exact ⟨[.c (.sl 0 (.x fun _ => 0) (.x fun _ => len0)), .c .sn], [some ⟨false, 0, .it .u8 fun _ => L0⟩], _, _, fun _ => loc0, rfl,
          holds_mk ⟨rfl, hL0, hlen0, hw0⟩, hrel_ro1 hB0 rfl, ⟨hs0 (fun _ => loc0) 1 0 (.x fun _ => len0) (by decide) rfl rfl, rfl, trivial⟩⟩
      · exact ⟨[.c (.sl 0 (.x fun _ => 0) (.x fun _ => len0)), .c (.sl 1 (.x fun _ => 0) (.x fun _ => len1))], [some ⟨false, 0, .it .u8 fun _ => L0⟩, some ⟨false, 0, .it .u8 fun _ => L1⟩], _, _, (fun i => match i with | 0 => loc0 | _ => loc1), rfl,
          holds_two ⟨rfl, hL0, hlen0, hw0⟩ ⟨rfl, hL1, hlen1, hw1⟩, hrel_ro2 hB0 hB1 rfl rfl, ⟨hs0 ((fun i => match i with | 0 => loc0 | _ => loc1)) 2 0 (.x fun _ => len0) (by decide) rfl rfl, hs1 ((fun i => match i with | 0 => loc0 | _ => loc1)) 2 1 (.x fun _ => len1) (by decide) rfl rfl, trivial⟩⟩
/-! ## the row -/
noncomputable def modB (h : Array Obj) (b : Nat) (cs : Array Value) : Array Obj := h.modify b fun
  | .cells _ t frozen => .cells cs t frozen
  | o => o
noncomputable def low : Nat := (World.holding Tryz.prog default ⟨#[], #[], []⟩).heap.size
noncomputable def laidWorld (os : Os) : World :=
  let w0 := World.holding Tryz.prog os ⟨#[.cells #[.string { data := #[118, 97, 108, 117, 101, 32, 111, 117, 116, 32, 111, 102, 32, 114, 97, 110, 103, 101] }] 210, .cells #[.string { data := #[105, 110, 118, 97, 108, 105, 100, 32, 115, 121, 110, 116, 97, 120] }] 210], #[], []⟩
  { w0 with heap := modB (modB (modB (modB (modB (modB (modB w0.heap 7 #[.int .u8 0, .int .u8 1, .int .u8 28, .int .u8 2, .int .u8 29, .int .u8 14, .int .u8 24, .int .u8 3, .int .u8 30, .int .u8 22, .int .u8 20, .int .u8 15, .int .u8 25, .int .u8 17, .int .u8 4, .int .u8 8, .int .u8 31, .int .u8 27, .int .u8 13, .int .u8 23, .int .u8 21, .int .u8 19, .int .u8 16, .int .u8 7, .int .u8 26, .int .u8 12, .int .u8 18, .int .u8 6, .int .u8 11, .int .u8 5, .int .u8 10, .int .u8 9]) 8 #[.int .u8 0, .int .u8 1, .int .u8 56, .int .u8 2, .int .u8 57, .int .u8 49, .int .u8 28, .int .u8 3, .int .u8 61, .int .u8 58, .int .u8 42, .int .u8 50, .int .u8 38, .int .u8 29, .int .u8 17, .int .u8 4, .int .u8 62, .int .u8 47, .int .u8 59, .int .u8 36, .int .u8 45, .int .u8 43, .int .u8 51, .int .u8 22, .int .u8 53, .int .u8 39, .int .u8 33, .int .u8 30, .int .u8 24, .int .u8 18, .int .u8 12, .int .u8 5, .int .u8 63, .int .u8 55, .int .u8 48, .int .u8 27, .int .u8 60, .int .u8 41, .int .u8 37, .int .u8 16, .int .u8 46, .int .u8 35, .int .u8 44, .int .u8 21, .int .u8 52, .int .u8 32, .int .u8 23, .int .u8 11, .int .u8 54, .int .u8 26, .int .u8 40, .int .u8 15, .int .u8 34, .int .u8 20, .int .u8 31, .int .u8 10, .int .u8 25, .int .u8 14, .int .u8 19, .int .u8 9, .int .u8 13, .int .u8 8, .int .u8 7, .int .u8 6]) 2 #[.int .u64 1, .int .u64 10, .int .u64 100, .int .u64 1000, .int .u64 10000, .int .u64 100000, .int .u64 1000000, .int .u64 10000000, .int .u64 100000000, .int .u64 1000000000, .int .u64 10000000000, .int .u64 100000000000, .int .u64 1000000000000, .int .u64 10000000000000, .int .u64 100000000000000, .int .u64 1000000000000000, .int .u64 10000000000000000, .int .u64 100000000000000000, .int .u64 1000000000000000000, .int .u64 10000000000000000000])
      6 #[.int .u8 128, .int .u8 191, .int .u8 160, .int .u8 191, .int .u8 128, .int .u8 159, .int .u8 144, .int .u8 191, .int .u8 128, .int .u8 143, .int .u8 0, .int .u8 0, .int .u8 0, .int .u8 0, .int .u8 0, .int .u8 0, .int .u8 0, .int .u8 0, .int .u8 0, .int .u8 0, .int .u8 0, .int .u8 0, .int .u8 0, .int .u8 0, .int .u8 0, .int .u8 0, .int .u8 0, .int .u8 0, .int .u8 0, .int .u8 0, .int .u8 0, .int .u8 0])
      4 #[.iface 208 (.pointer (some ⟨low, 0, none⟩))]) 3 #[.iface 208 (.pointer (some ⟨low + 1, 0, none⟩))]) 5 (Lib.firstTab.map fun z => Value.int .u8 z).toArray }
def wit : Value := .string ⟨#[]⟩
theorem laid_met (os : Os) : laidMet Tryz.prog Rows.fnMarksRow.laid ((laidWorld os).forCall (fun _ _ => 0) ⟨#[], #[.slice none 0 0, .slice none 0 0], []⟩).memory :=
  laidMet_of_run' 8 (by kernel_rfl) (by kernel_rfl)
theorem reads (os : Os) {H : Type} (enc : TypeId × Value → H) : ∃ places, DataW.whole enc Tryz.prog ((laidWorld os).forCall (fun _ _ => 0) ⟨#[], #[.slice none 0 0, .slice none 0 0], []⟩).memory Tryz.f4.params.toList Rows.fnMarksSpec.vars false [.slice none 0 0, .slice none 0 0] 8 = some ([.nil, .nil], [], places) :=
  ⟨[], by kernel_rfl⟩
set_option maxRecDepth 100000 in
theorem lifted (os : Os) (started : os.Started) (H : Type) (enc : TypeId × Value → H) (F : Stop.Interp) :
    ReturnsInHanded {} Tryz.checked os 4 .any ((OpenSpec.ofChange Rows.fnMarksSpec).preRow enc Tryz.prog Tryz.f4 Rows.fnMarksRow.domain false Rows.fnMarksRow.laid) (((OpenSpec.ofChange Rows.fnMarksSpec).at F).post enc Tryz.prog Tryz.f4 false true false false) := by
  obtain ⟨places, hx⟩ := reads os enc
  refine returnsInHanded_of_row (C := Tryz.checked) (s := OpenSpec.ofChange Rows.fnMarksSpec) own started (by kernel_rfl) Tryz.func4
    (witness_row_atRef (enc := enc) (C := Tryz.checked) false (laidWorld os) #[.slice none 0 0, .slice none 0 0] rfl (by kernel_rfl) (by kernel_rfl) (by kernel_rfl)
      (OpenSpec.preRow_of_cond 8 hx (by kernel_rfl) (fun k hk => by cases hk) (by kernel_rfl) (laid_met os))) ?_
  intro W base args ds gs before hval hW _ _ _ hL hs _
  exact contract H enc W base args ds gs before hval hW hL hs
theorem said4 : Rows.FnMarksSaid :=
  OpenClaim.holds_of_cond 4 Tryz.f4 rfl rfl rfl rfl rfl rfl rfl ⟨rfl, rfl, rfl, rfl, rfl⟩ rfl rfl rfl rfl rfl (by kernel_rfl) Tryz.func4 (by kernel_rfl)
    (of_decide_eq_true (by kernel_rfl)) (by unfold Func.isWrapper; first | (rw [if_pos (by decide +kernel)]; kernel_rfl) | (rw [if_neg (by decide +kernel)]; exact ⟨rfl, rfl⟩))
    (fun os started H enc _ F => by rw [OpenClaim.pre_eq_preRow]; exact lifted os started H enc F)
theorem plain (f : FuncId) (fn : Func) (hf : Tryz.pinned.checked.prog.funcNamed "loop.example/g01320/laws.FnMarks" = some f) (hfn : Tryz.pinned.checked.prog.funcs[f]? = some fn) :
    true = Tryz.pinned.checked.prog.looks [] ∧ ∀ (j : Nat) t, fn.params[j]? = some t → Tryz.pinned.checked.prog.wantsStandIn t = false := by
  obtain rfl : f = 4 := Option.some.inj ((show Tryz.prog.funcNamed "loop.example/g01320/laws.FnMarks" = some 4 by kernel_rfl).symm.trans hf) |>.symm
  obtain rfl : fn = Tryz.f4 := (Option.some.inj (Tryz.func4.symm.trans hfn)).symm
  refine ⟨by kernel_rfl, fun j t ht => ?_⟩
  rw [show Tryz.f4.params = #[22, 22] from rfl] at ht
  obtain rfl : t = 22 := by simpa using Array.mem_of_getElem? ht
  exact (show Tryz.prog.wantsStandIn 22 = false by kernel_rfl)
theorem card4 : Rows.FnMarksCardSaid :=
  Claim7.holds_tied_plain_at .later [] _ _ _ _ said4 (fun _ h => by cases h) (by kernel_rfl) (fun _ h => by cases h) fnMarks_row_tie rfl ⟨rfl, rfl⟩ (by kernel_rfl) rfl plain (by kernel_rfl)
end Go.Proofs.YteifneielgnniaaGreatDoor
end
