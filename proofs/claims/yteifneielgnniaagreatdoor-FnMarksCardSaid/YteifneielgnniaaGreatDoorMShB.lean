/- The machine is sound for code, functions and rows: second part. No condition. -/
import Derived.Test.YteifneielgnniaaGreatDoorMShA
import Derived.ProofKit
import Derived.WideKeyArgs
import Derived.Deep.Slices
import Derived.KernelRfl
set_option linter.unusedVariables false
set_option linter.unusedSimpArgs false
set_option linter.unusedSectionVars false
namespace Go.Proofs.YteifneielgnniaaGreatDoor.Sh
open Go Ieee
/-! ### parts laid into cells -/
theorem putAll_len (z : List C) : ∀ (xs : List C) (off : Nat), (putAll z off xs).length = z.length
  | [], _ => rfl
  | x :: xs, off => by rw [putAll, putAll_len, List.length_set]
theorem putAll_rel {R : C → Value → Prop} : ∀ {xs : List C} {vs : List Value} {z : List C} {arr : Array Value} (off k : Nat), relL R z arr.toList → relL R xs vs →
    relL R (putAll z (off + k) xs) ((vs.zipIdx k).foldl (fun (cs : Array Value) (x : Value × Nat) => cs.setIfInBounds (off + x.2) x.1) arr).toList
  | [], [], _, _, _, _, h, _ => h
  | x :: xs, v :: vs, z, arr, off, k, h, r => by
    simp only [putAll, List.zipIdx_cons, List.foldl_cons]
    exact putAll_rel (z := z.set (off + k) x) off (k + 1) (by rw [Array.toList_setIfInBounds]; exact h.set _ r.1) r.2
  | [], _ :: _, _, _, _, _, _, r => r.elim
  | _ :: _, [], _, _, _, _, _, r => r.elim
def partOk (μ : Nat → Loc) (N : Nat) (x : Nat × V) (y : Nat × Value) : Prop := x.1 = y.1 ∧ relV μ N x.2 y.2
theorem fill_ok {μ : Nat → Loc} {N : Nat} {place : Nat → Option (Nat × Nat)} : ∀ {ps : List (Nat × V)} {qs : List (Nat × Value)} {z cs : List C} {arr : Array Value}, fillA place z ps = some cs → relL (relC μ N) z arr.toList → relL (partOk μ N) ps qs →
    ∃ arr', Instr.fill place arr qs = some arr' ∧ relL (relC μ N) cs arr'.toList
  | [], [], z, cs, arr, h, hz, _ => by
    simp only [fillA, Option.some.injEq] at h
    subst h; exact ⟨arr, rfl, hz⟩
  | (i, v) :: ps, (j, u) :: qs, z, cs, arr, h, hz, hp => by
    obtain ⟨⟨e, hv⟩, hp⟩ := hp
    simp only at e hv
    subst e
    unfold fillA at h
    split at h
    · rename_i off size xs h1 h2
      split at h
      · rename_i hl hb
        have hr := V.cells_rel h2 hv
        have hlen : u.cells.size = xs.length := by rw [← Array.length_toList, ← hr.len]
        have hsz : arr.size = z.length := by rw [← Array.length_toList, ← hz.len]
        have key := putAll_rel (z := z) (arr := arr) off 0 hz hr
        rw [Nat.add_zero] at key
        obtain ⟨arr', k1, k2⟩ := fill_ok h key hp
        refine ⟨arr', ?_, k2⟩
        unfold Instr.fill
        rw [h1]
        simp only
        rw [if_neg (by rw [hlen, hsz]; have := beqN_eq hl; have := ble_le hb; simp; omega)]
        rw [← k1]
        congr 1
        rw [← Array.foldl_toList, Array.toList_zipIdx]
      · cases h
    · cases h
  | [], _ :: _, _, _, _, _, _, hp => hp.elim
  | _ :: _, [], _, _, _, _, _, hp => hp.elim
theorem places_ok {P : Program} {tt : TT} (htt : TtOk P tt) : ∀ {gs : List Field} {pl : List (Nat × Nat)}, places tt (gs.map fun f => (f.offset, f.type)) = some pl →
    gs.mapM (fun f => (P.info? f.type).map fun i => (f.offset, i.size)) = some pl
  | [], pl, h => by simp only [List.map_nil, places, Option.some.injEq] at h; subst h; rfl
  | g :: gs, pl, h => by
    simp only [List.map_cons] at h
    unfold places at h
    split at h
    · rename_i ti q h1 h2
      cases h
      obtain ⟨i, hi, hs, _⟩ := (tt_ok htt h1).info
      simp [List.mapM_cons, hi, hs, places_ok htt h2]
    · cases h
theorem abuild_ok {P : Program} {tt : TT} (htt : TtOk P tt) {t : Nat} {ps : List (Nat × V)} {v : V} (h : abuild tt t ps = some v) {μ : Nat → Loc} {N : Nat} {qs : Array (Nat × Value)} (hq : relL (partOk μ N) ps qs.toList) (w : World) :
    ∃ z, (Instr.build t qs).run P w = .ok z w ∧ relV μ N v z := by
  unfold abuild at h
  split at h
  · cases h
  · rename_i ti ht
    obtain ⟨i, hi, hs, hb, z, hz, hzr, hag⟩ := (tt_ok htt ht).info
    split at h
    · rename_i fs hk
      obtain ⟨gs, hu, hm⟩ := und_st htt ht hk
      split at h
      · rename_i pl hpl
        split at h
        · rename_i cs hf
          cases h
          rw [← hm] at hpl
          have hpl := places_ok htt hpl
          obtain ⟨arr, h1, h2⟩ := fill_ok hf (hzr μ N) hq
          refine ⟨.agg arr, run_build w t qs arr ?_, arr.toList, by simp, h2⟩
          unfold Program.built
          simp only [hi, hu, hz, hpl]
          simpa using h1
        · cases h
      · cases h
    · rename_i n e hk
      have hu := und_ar htt ht hk
      split at h
      · rename_i te hte
        split at h
        · rename_i cs hf
          cases h
          obtain ⟨j, hj, hsj, _⟩ := (tt_ok htt hte).info
          obtain ⟨arr, h1, h2⟩ := fill_ok hf (hzr μ N) hq
          refine ⟨.agg arr, run_build w t qs arr ?_, arr.toList, by simp, h2⟩
          unfold Program.built
          simp only [hi, hu, hz, hj, hsj]
          exact h1
        · cases h
      · cases h
    · cases h
theorem apart_ok {P : Program} {t : Nat} {ti : TI} (ht : TIOk P t ti) {cs : List C} {off : Nat} {v : V} (h : apart ti cs off = some v) {μ : Nat → Loc} {N : Nat} {vs : List Value} (hr : relL (relC μ N) cs vs) (w : World) :
    ∃ z, (part t vs.toArray off).run P w = .ok z w ∧ relV μ N v z := by
  unfold apart at h
  split at h
  · rename_i ha
    cases h
    refine ⟨.agg (vs.toArray.extract off (off + ti.size)), ?_, (vs.drop off).take ti.size, ?_, (hr.drop off).take ti.size⟩
    · simp [part, ht.isAgg, ha, ht.sizeOf]
    · simp [Nat.add_sub_cancel_left]
  · rename_i ha
    split at h
    · rename_i c hc
      cases h
      obtain ⟨x, hx, r⟩ := hr.get hc
      refine ⟨x, ?_, r⟩
      simp [part, ht.isAgg, ha, hx]
    · cases h
theorem aindex_ok {P : Program} {tt : TT} (htt : TtOk P tt) {t : Nat} {x i v : V} (h : aindex tt t x i = some v) {μ : Nat → Loc} {N : Nat} {u k : Value} (hu : relV μ N x u) (hk : relV μ N i k) (w : World) :
    ∃ z, (Instr.index t u k).run P w = .ok z w ∧ relV μ N v z := by
  unfold aindex at h
  split at h
  · rename_i ti cs q n ht
    split at h
    · rename_i m el hkd
      have hun := und_ar htt ht hkd
      split at h
      · rename_i te hte hin
        have hin := of_decide_eq_true hin
        obtain ⟨vs, rfl, hr⟩ := hu
        rw [show k = .int q n from hk]
        obtain ⟨z, h1, h2⟩ := apart_ok (tt_ok htt hte) h hr w
        refine ⟨z, ?_, h2⟩
        simp only [Instr.index, asIntOf, Sem.run_bind, Sem.run_pure, Result.andThen_ok, run_underlying hun]
        rw [if_pos hin]
        simp only [Sem.run_bind, size_of htt hte, Result.andThen_ok]
        exact h1
      · cases h
    · cases h
  · cases h
theorem aindexS_ok {P : Program} {tt : TT} (htt : TtOk P tt) {t : Nat} {x i v : V} {p : Obl} (h : aindexS tt t x i = some (v, p)) (hp : holds p) {μ : Nat → Loc} {N : Nat} {u k : Value} (hu : relV μ N x u) (hk : relV μ N i k) (w : World) :
    ∃ z, (Instr.index t u k).run P w = .ok z w ∧ relV μ N v z := by
  unfold aindexS at h
  split at h
  · rename_i ti e q n ht
    split at h
    · rename_i hkd
      have hun := und_str htt ht hkd
      cases h
      have ho := hp.one
      rw [show u = .string (e ()) from hu, show k = .int q n.val from hk]
      have hs : n.val.toNat < (e ()).data.size := by
        have : (e ()).data.size = (e ()).size := rfl
        omega
      have hg : (e ())[n.val.toNat]? = some ((e ()).data.toList.getD n.val.toNat 0) := by
        have h2 : n.val.toNat < (e ()).size := hs
        rw [getElem?_pos (e ()) n.val.toNat h2, List.getD_eq_getElem?_getD, List.getElem?_eq_getElem (by simpa using hs)]
        rfl
      refine ⟨.int .u8 (((e ()).data.toList.getD n.val.toNat 0).toNat : Int), ?_, rfl⟩
      simp only [Instr.index, asIntOf, Sem.run_bind, Sem.run_pure, Result.andThen_ok, run_underlying hun]
      rw [if_pos ho.1, hg]
      rfl
    · cases h
  · cases h
theorem afield_ok {P : Program} {tt : TT} (htt : TtOk P tt) {t : Nat} {x v : V} {f : Nat} (h : afield tt t x f = some v) {μ : Nat → Loc} {N : Nat} {u : Value} (hu : relV μ N x u) (w : World) :
    ∃ z, (Instr.field t u f).run P w = .ok z w ∧ relV μ N v z := by
  unfold afield at h
  split at h
  · rename_i ti cs ht
    split at h
    · rename_i fs hk
      split at h
      · rename_i off ft hf
        split at h
        · rename_i te hte
          obtain ⟨gs, fd, hun, hg, rfl, rfl⟩ := fld htt ht hk hf
          obtain ⟨vs, rfl, hr⟩ := hu
          obtain ⟨z, h1, h2⟩ := apart_ok (tt_ok htt hte) h hr w
          refine ⟨z, ?_, h2⟩
          simp only [Instr.field, Sem.run_bind, run_underlying hun, Result.andThen_ok, hg, asAgg, Sem.run_pure]
          exact h1
        · cases h
      · cases h
    · cases h
  · cases h
theorem NE.add_val (a b : NE) : (a.add b).val = a.val + b.val := by cases a <;> cases b <;> rfl
theorem NE.sub_val (a b : NE) : (a.sub b).val = a.val - b.val := by cases a <;> cases b <;> rfl
theorem NE.mulK_val (a : NE) (k : Nat) : (a.mulK k).val = a.val * k := by cases a <;> rfl
theorem IE.nat_val (a : IE) : a.nat.val = a.val.toNat := by cases a <;> rfl
theorem afieldAddr_ok {P : Program} {tt : TT} (htt : TtOk P tt) {t : Nat} {x v : V} {f : Nat} (h : afieldAddr tt t x f = some v) {μ : Nat → Loc} {N : Nat} {u : Value} (hu : relV μ N x u) (w : World) :
    ∃ z, (Instr.fieldAt t u f).run P w = .ok z w ∧ relV μ N v z := by
  unfold afieldAddr at h
  split at h
  · rename_i ti b o ht
    split at h
    · rename_i fs hk
      split at h
      · rename_i off ft hf
        split at h
        · rename_i te hte
          split at h
          · cases h
          · rename_i n hsz
            cases h
            obtain ⟨gs, fd, hun, hg, rfl, rfl⟩ := fld htt ht hk hf
            obtain ⟨hb, rfl⟩ := hu
            refine ⟨.pointer (some (addrOf (μ b) (o.val + fd.offset))), ?_, hb, by rw [NE.add_val]; rfl⟩
            simp only [Instr.fieldAt, Sem.run_bind, run_underlying hun, Result.andThen_ok, hg, Instr.sureAddr, Sem.run_pure, fieldPlace, size_of htt hte]
            rw [if_neg (by omega)]
            simp [addr_add]
        · cases h
      · cases h
    · cases h
  · cases h
theorem inb_ok {e : IE} {n : NE} {p : Obl} (h : inb e n = some p) (hp : holds p) : 0 ≤ e.val ∧ e.val < n.val := by
  unfold inb at h
  split at h
  · split at h
    · rename_i hd; exact of_decide_eq_true hd
    · cases h
  · cases h; exact hp.one
theorem aindexAddr_ok {P : Program} {tt : TT} (htt : TtOk P tt) {t : Nat} {x i v : V} {p : Obl} (h : aindexAddr tt t x i = some (v, p)) (hp : holds p) {μ : Nat → Loc} {N : Nat} {u k : Value} (hu : relV μ N x u) (hk : relV μ N i k) (w : World) :
    ∃ z, (Instr.indexAt t u k).run P w = .ok z w ∧ relV μ N v z := by
  unfold aindexAddr at h
  split at h
  · rename_i ti b o q e ht
    split at h
    · rename_i n el hkd
      have hun := und_ar htt ht hkd
      split at h
      · rename_i te pp hte hin
        cases h
        have hin := inb_ok hin hp
        simp only [NE.val] at hin
        obtain ⟨hb, rfl⟩ := hu
        rw [show k = .int q e.val from hk]
        refine ⟨.pointer (some (addrOf (μ b) (o.val + e.val.toNat * te.size))), ?_, hb, by rw [NE.add_val, NE.mulK_val, IE.nat_val]⟩
        simp only [Instr.indexAt, asIntOf, Sem.run_bind, Sem.run_pure, Result.andThen_ok, run_underlying hun, Instr.sureAddr]
        rw [if_pos hin]
        simp [size_of htt hte, addr_add]
      · cases h
    · cases h
  · rename_i ti b o n q e ht
    split at h
    · rename_i el hkd
      have hun := und_sl htt ht hkd
      split at h
      · rename_i te pp hte hin
        cases h
        have hin := inb_ok hin hp
        obtain ⟨hb, cap, ad, h1, h2, h3, rfl⟩ := hu
        have had : ad = addrOf (μ b) o.val := by
          rcases h3 with h3 | h3
          · omega
          · exact h3
        subst had
        rw [show k = .int q e.val from hk]
        refine ⟨.pointer (some (addrOf (μ b) (o.val + e.val.toNat * te.size))), ?_, hb, by rw [NE.add_val, NE.mulK_val, IE.nat_val]⟩
        simp only [Instr.indexAt, asIntOf, Sem.run_bind, Sem.run_pure, Result.andThen_ok, run_underlying hun]
        rw [if_pos hin]
        simp [size_of htt hte, addr_add]
      · cases h
    · cases h
  · cases h
end Go.Proofs.YteifneielgnniaaGreatDoor.Sh
namespace Go.Proofs.YteifneielgnniaaGreatDoor.Sh
open Go Ieee
def relO (μ : Nat → Loc) (N : Nat) : Option V → Option Value → Prop
  | none, none => True
  | some v, some x => relV μ N v x
  | _, _ => False
theorem bndOb_ok {a b : IE} {n : NE} {p : Obl} (h : bndOb a b n = some p) (hp : holds p) : 0 ≤ a.val ∧ a.val ≤ b.val ∧ b.val ≤ (n.val : Int) := by
  unfold bndOb at h
  split at h
  · split at h
    · rename_i hd; exact of_decide_eq_true hd
    · cases h
  · cases h; exact hp.one
/-- a bound: what it is where it is written, and where it is not -/
theorem bound_ok {v : Option V} {d : NE} {e : IE} {m : NE} (h : bound v d = some (e, m)) {μ : Nat → Loc} {N : Nat} {x : Option Value} (hx : relO μ N v x) :
    m.val = e.val.toNat ∧ ((v = none ∧ x = none ∧ e.val = (d.val : Int)) ∨ ∃ k, x = some (.int k e.val)) := by
  unfold bound at h
  split at h
  · cases x with
    | none =>
      split at h
      · cases h; exact ⟨rfl, .inl ⟨rfl, rfl, rfl⟩⟩
      · cases h; exact ⟨rfl, .inl ⟨rfl, rfl, rfl⟩⟩
    | some _ => exact hx.elim
  · rename_i k e'
    cases h
    cases x with
    | none => exact hx.elim
    | some u => exact ⟨IE.nat_val _, .inr ⟨k, by rw [show u = .int k e.val from hx]⟩⟩
  · cases h
theorem run_bounds {P : Program} (w : World) (isS : Bool) {len cap : Nat} {lo hi : Option V} {a b : IE} {an bn d : NE} {n : NE} {p : Obl} (h1 : bound lo (.l 0) = some (a, an)) (h2 : bound hi d = some (b, bn)) (h3 : bndOb a b n = some p) (hp : holds p)
    (hd : d.val = len) (hn : n.val = len) (hc : len ≤ cap) {μ : Nat → Loc} {N : Nat} {lo' hi' : Option Value} (r1 : relO μ N lo lo') (r2 : relO μ N hi hi') :
    (Instr.sliceBounds isS len cap lo' hi' none).run P w = .ok (an.val, bn.val, cap) w ∧ an.val ≤ bn.val ∧ bn.val ≤ len := by
  obtain ⟨e1, k1⟩ := bound_ok h1 r1
  obtain ⟨e2, k2⟩ := bound_ok h2 r2
  have ho := bndOb_ok h3 hp
  rw [hn] at ho
  rw [hd] at k2
  refine ⟨?_, by omega, by omega⟩
  unfold Instr.sliceBounds
  rcases k2 with ⟨_, rfl, k2⟩ | ⟨k, rfl⟩ <;> rcases k1 with ⟨_, rfl, k1⟩ | ⟨k', rfl⟩
  · have e1' : an.val = 0 := by rw [e1, k1]; rfl
    have e2' : bn.val = len := by rw [e2, k2]; simp
    simp [e1', e2']
  · have e2' : bn.val = len := by rw [e2, k2]; simp
    simp only [Sem.run_bind, Sem.run_pure, Result.andThen_ok, Instr.sliceBound, asIntOf]
    rw [if_pos (by omega)]
    simp [e1, e2']
  · have e1' : an.val = 0 := by rw [e1, k1]; rfl
    simp only [Sem.run_bind, Sem.run_pure, Result.andThen_ok, Instr.sliceBound, asIntOf]
    rw [if_pos (by omega)]
    simp [e1', e2]
  · simp only [Sem.run_bind, Sem.run_pure, Result.andThen_ok, Instr.sliceBound, asIntOf]
    rw [if_pos (by omega)]
    simp only [Sem.run_pure, Result.andThen_ok]
    rw [if_pos (by omega)]
    simp [e1, e2]
theorem asliceS_ok {P : Program} {tt : TT} (htt : TtOk P tt) {t : Nat} {x v : V} {lo hi : Option V} {p : Obl} (h : asliceS tt t x lo hi = some (v, p)) (hp : holds p) {μ : Nat → Loc} {N : Nat}
    {u : Value} {lo' hi' : Option Value} (hu : relV μ N x u) (r1 : relO μ N lo lo') (r2 : relO μ N hi hi') (w : World) : ∃ z, (Instr.sliceAt t u lo' hi' none).run P w = .ok z w ∧ relV μ N v z := by
  unfold asliceS at h
  split at h
  · rename_i ti e ht
    split at h
    · rename_i hk
      have hun := und_str htt ht hk
      split at h
      · rename_i a an c cn h1 h2
        split at h
        · rename_i q hq
          cases h
          rw [show u = .string (e ()) from hu]
          obtain ⟨k1, k2, k3⟩ := run_bounds (P := P) w false (len := (e ()).size) (cap := (e ()).size) h1 h2 hq hp rfl rfl (Nat.le_refl _) r1 r2
          refine ⟨.string ((e ()).extract an.val cn.val), ?_, rfl⟩
          simp only [Instr.sliceAt, Sem.run_bind, run_underlying hun, Result.andThen_ok, Instr.slice, Option.isSome_none, Bool.false_eq_true, if_false, Sem.run_pure, k1]
        · cases h
      · cases h
    · cases h
  · cases h
theorem und_u8 {P : Program} {tt : TT} (htt : TtOk P tt) {t : Nat} {ti : TI} (ht : ttGet tt t = some ti) (hd : ti.dst = some (.inl .u8)) : P.underlying t = some (.int .u8) := by
  have hdst := (tt_ok htt ht).dst
  rw [hd] at hdst
  unfold dstB at hdst
  split at hdst <;> simp_all
  exact (beqK_eq hdst).symm ▸ rfl
theorem aconvS_ok {P : Program} {tt : TT} (htt : TtOk P tt) {H : Heap} {src dst : Nat} {x v : V} {p : Obl} (h : aconvS tt H src dst x = some (v, p)) (hp : holds p) {μ : Nat → Loc} {W : Nat → Prop} {w : World} (hH : HRel μ W H w)
    {u : Value} (hu : relV μ H.length x u) : ∃ z, (convert src dst u).run P w = .ok z w ∧ relV μ H.length v z := by
  unfold aconvS at h
  split at h
  · rename_i si ti b o n hs ht
    split at h
    · rename_i e B hk1 hk2 hB
      have hsu := und_sl htt hs hk1
      have hdu := und_str htt ht hk2
      split at h
      · rename_i te l hte hl
        split at h
        · rename_i hd
          have heu := und_u8 htt hte hd
          cases h
          have ho := hp.one
          obtain ⟨hb, cap, ad, g1, g2, g3, rfl⟩ := hu
          obtain ⟨c, e', lo, hi, hg, hc, _⟩ := (hH.blk b B (Heap.blk_some hB)).out
          have hle := (toIt_le hl).1
          refine ⟨.string (bytesT (((l ()).drop o.val).take n.val)), ?_, rfl⟩
          rw [run_convert_bytes_string w src dst e (some ad) n.val cap hsu heu hdu]
          have hlen : (((l ()).drop o.val).take n.val).length = n.val := by
            rw [List.length_take, List.length_drop]
            have : o.val + n.val ≤ (l ()).length := ho
            omega
          have hcells : ∀ j v, ((((l ()).drop o.val).take n.val).map (Value.int .u8))[j]? = some v → w.cell? (ad.add j) = some v := fun j v hv => by
            have hj : j < n.val := by
              have := lt_of_get hv
              rw [List.length_map, hlen] at this
              exact this
            have hj2 : o.val + j < (l ()).length := by
              have : o.val + n.val ≤ (l ()).length := ho
              omega
            have had : ad = addrOf (μ b) o.val := by
              rcases g3 with g3 | g3
              · omega
              · exact g3
            obtain ⟨u, hu1, hu2⟩ := hle (o.val + j) (.i .u8 (.l (l ())[o.val + j])) (by
              show ((l ())[o.val + j]?).map _ = _
              rw [List.getElem?_eq_getElem hj2]; rfl)
            obtain ⟨v', hv', r⟩ := hc _ _ hu1
            have r := hu2 _ _ _ r
            rw [had, addr_add, cell_addr hg, hv', show v' = .int .u8 (l ())[o.val + j] from r]
            rw [← hv]
            simp [List.getElem?_take, hj, List.getElem?_drop, List.getElem?_eq_getElem hj2]
          have hL := run_loads (P := P) hcells
          rw [List.length_map, hlen] at hL
          exact run_bytesToString w ad n.val cap _ hL
        · cases h
      · cases h
    · cases h
  · cases h
theorem aslice_ok {P : Program} {tt : TT} (htt : TtOk P tt) {H : Heap} {t : Nat} {x v : V} {lo hi : Option V} {p : Obl} (h : aslice tt H t x lo hi = some (v, p)) (hp : holds p) {μ : Nat → Loc} {W : Nat → Prop} {w : World} (hH : HRel μ W H w)
    {u : Value} {lo' hi' : Option Value} (hu : relV μ H.length x u) (r1 : relO μ H.length lo lo') (r2 : relO μ H.length hi hi') : ∃ z, (Instr.sliceAt t u lo' hi' none).run P w = .ok z w ∧ relV μ H.length v z := by
  unfold aslice at h
  split at h
  · rename_i ti b o ht
    split at h
    · rename_i n el hk
      have hun := und_ar htt ht hk
      split at h
      · rename_i te a an c cn hte h1 h2 hrow
        split at h
        · rename_i q hq
          cases h
          obtain ⟨hb, rfl⟩ := hu
          obtain ⟨k1, k2, k3⟩ := run_bounds (P := P) w false (len := n) h1 h2 hq hp rfl rfl (Nat.le_refl n) r1 r2
          have hes : (μ b).es = 0 := by
            unfold rowNo at hrow
            split at hrow
            · rename_i B hB
              obtain ⟨_, _, _, _, _, _, _, he, _⟩ := (hH.blk b B (Heap.blk_some hB)).out
              rw [he]; exact beqN_eq hrow
            · cases hrow
          refine ⟨.slice (some (if n = an.val then addrOf (μ b) o.val else (addrOf (μ b) o.val).add (an.val * te.size))) (cn.val - an.val) (n - an.val), ?_, hb, n - an.val, (if n = an.val then addrOf (μ b) o.val else (addrOf (μ b) o.val).add (an.val * te.size)), ?_, .inl hes, ?_, ?_⟩
          · simp only [Instr.sliceAt, Sem.run_bind, run_underlying hun, Result.andThen_ok, Instr.sureAddr, Sem.run_pure, k1, size_of htt hte]
          · rw [NE.sub_val]; omega
          · by_cases hn : n = an.val
            · left; omega
            · right; rw [if_neg hn, addr_add, NE.add_val, NE.mulK_val]
          · rw [NE.sub_val]
        · cases h
      · cases h
    · cases h
  · rename_i ti b o n ht
    split at h
    · rename_i el hk
      have hun := und_sl htt ht hk
      split at h
      · rename_i te hte
        split at h
        · rename_i a an c cn h1 h2 hrow
          split at h
          · rename_i q hq
            cases h
            obtain ⟨hb, cap, ad, g1, g2, g3, rfl⟩ := hu
            obtain ⟨k1, k2, k3⟩ := run_bounds (P := P) w true (len := n.val) h1 h2 hq hp rfl rfl g1 r1 r2
            have hes : (μ b).es = 0 ∨ (μ b).es = te.size := by
              unfold rowOk at hrow
              split at hrow
              · rename_i B hB
                obtain ⟨_, _, _, _, _, _, _, he, _⟩ := (hH.blk b B (Heap.blk_some hB)).out
                split at hrow
                · rename_i hz; left; rw [he]; exact beqN_eq hz
                · right; rw [he]; exact beqN_eq hrow
              · cases hrow
            refine ⟨.slice (some (if cap = an.val then ad else ad.add (an.val * te.size))) (cn.val - an.val) (cap - an.val), ?_, hb, cap - an.val, (if cap = an.val then ad else ad.add (an.val * te.size)), ?_, ?_, ?_, ?_⟩
            · have hnot : ∀ m e, TypeDesc.slice el ≠ .array m e := fun _ _ => by simp
              simp only [Instr.sliceAt, Sem.run_bind, run_underlying hun, Result.andThen_ok, Instr.slice, k1, size_of htt hte, Sem.run_pure]
              simp only [Option.map_some]
              split <;> rfl
            · rw [NE.sub_val]; omega
            · rcases hes with hes | hes
              · exact .inl hes
              · rcases g2 with g2 | g2
                · exact .inl g2
                · right
                  rw [NE.add_val, NE.mulK_val, hes] at *
                  have : cap * te.size = an.val * te.size + (cap - an.val) * te.size := by
                    rw [← Nat.add_mul]; congr 1; omega
                  omega
            · by_cases hn : cap = an.val
              · left; omega
              · right
                rcases g3 with g3 | g3
                · omega
                · rw [if_neg hn, g3, addr_add, NE.add_val, NE.mulK_val]
            · rw [NE.sub_val]
          · cases h
        · cases h
      · cases h
    · cases h
  · cases h
theorem lenA_ok {P : Program} {t : Nat} {k : TK} (hk : kindB (P.underlying t) k = true) {x v : V} (h : lenA k x = some v) {μ : Nat → Loc} {N : Nat} {u : Value} (hu : relV μ N x u) (ty : TypeId) (w : World) :
    ∃ z, (Builtin.len_ #[t] ty #[u]).run P w = .ok z w ∧ relV μ N v z := by
  unfold lenA at h
  split at h
  · rename_i el b o n
    cases h
    obtain ⟨hb, cap, ad, g1, g2, g3, rfl⟩ := hu
    exact ⟨_, by simp [Builtin.len_, run_underlying (kind_sl hk)]; rfl, rfl⟩
  · rename_i el b o n
    cases h
    obtain ⟨hb, cap, ad, g1, g2, g3, rfl⟩ := hu
    exact ⟨_, by simp [Builtin.len_, run_underlying (kind_sl hk)]; rfl, rfl⟩
  · cases h
    rw [show u = .slice none 0 0 from hu]
    exact ⟨_, by simp [Builtin.len_, run_underlying (kind_sl hk)]; rfl, rfl⟩
  · rename_i e
    cases h
    rw [show u = .string (e ()) from hu]
    exact ⟨_, by simp [Builtin.len_, run_underlying (kind_str hk)]; rfl, rfl⟩
  · rename_i n e
    cases h
    exact ⟨_, by simp [Builtin.len_, run_underlying (kind_ar hk)]; rfl, rfl⟩
  · cases h
theorem real_at (t : Array TypeId) (ty : TypeId) (k : FloatKind) (p q : Nat) : Builtin.real_ t ty #[.complex k p q] = pure (.float k p) := rfl
theorem imag_at (t : Array TypeId) (ty : TypeId) (k : FloatKind) (p q : Nat) : Builtin.imag_ t ty #[.complex k p q] = pure (.float k q) := rfl
theorem complex_at (t : Array TypeId) (ty : TypeId) (p q : Nat) : Builtin.complex_ t ty #[.float .f32 p, .float .f32 q] = pure (.complex .f32 p q) := rfl
theorem callee_ok {A : List V} {c : Call} {g : Nat} {args : List V} (h : callee A c = some (g, args)) {μ : Nat → Loc} {N : Nat} {a : Act} (hA : relA μ N A a.tmps) (ty : TypeId) :
    ∃ vs : List Value, relL (relV μ N) args vs ∧ (do let d ← resolve a.eval c ty; invoke d.target d.args) = callFunc g vs.toArray := by
  unfold callee at h
  split at h
  · rename_i f hf
    split at h
    · rename_i g' caps hv
      cases h
      have hr := av_rel hA f
      rw [hv] at hr
      obtain ⟨hc, he⟩ := hr
      refine ⟨(c.args.toList.map a.eval) ++ caps.map (fun b => Value.pointer (some (addrOf (μ b) 0))), relL.append ?_ ?_, ?_⟩
      · generalize c.args.toList = l
        induction l with
        | nil => trivial
        | cons x l ih => exact ⟨av_rel hA x, ih⟩
      · clear he hv
        induction caps with
        | nil => trivial
        | cons b r ih => exact ⟨⟨hc b (by simp), rfl⟩, ih fun b hb => hc b (by simp [hb])⟩
      · simp only [resolve, hf, Deferred.ofValue, he, pure_bind, invoke]
        congr 1
        simp
    · cases h
  · cases h
/-- A QUIET OPERATION -/
theorem aopQ_ok {P : Program} {tt : TT} {E : Env} (htt : TtOk P tt) (hE : EnvOk P E) {o : Oper} {A : List V} {H : Heap} {v : V} {p : Obl} (h : aopQ tt E o A H = some (v, p)) (hp : holds p)
    {μ : Nat → Loc} {W : Nat → Prop} {w : World} {a : Act} (hW : Wide W w) (hA : relA μ H.length A a.tmps) (hH : HRel μ W H w) :
    Yld P o a w fun x w' => relV μ H.length v x ∧ Fr nowhere w w' := by
  obtain ⟨dst, op, ty, pos, after, gd⟩ := o
  unfold aopQ at h
  cases op <;> simp only at h <;> first | (cases h; done) | skip
  case move x =>
    cases h
    exact Yld.of_pure rfl ⟨av_rel hA x, Fr.refl _ _⟩
  case assign x =>
    cases h
    exact Yld.of_pure rfl ⟨av_rel hA x, Fr.refl _ _⟩
  case pick c x y =>
    split at h
    · rename_i v' hv
      cases h
      unfold apick at hv
      have hr := av_rel hA c
      split at hv
      · rename_i hc
        cases hv
        rw [hc] at hr
        have hr : a.eval c = .bool true := hr
        exact .inl ⟨_, w, by simp [execOp, hr, asBool], av_rel hA x, Fr.refl _ _⟩
      · rename_i hc
        cases hv
        rw [hc] at hr
        have hr : a.eval c = .bool false := hr
        exact .inl ⟨_, w, by simp [execOp, hr, asBool], av_rel hA y, Fr.refl _ _⟩
      · cases hv
    · cases h
  case build t ps =>
    split at h
    · rename_i v' hv
      cases h
      obtain ⟨z, h1, h2⟩ := abuild_ok (P := P) htt hv (μ := μ) (N := H.length) (qs := ps.map fun (i, x) => (i, a.eval x)) (by
        rw [Array.toList_map]
        generalize ps.toList = l
        induction l with
        | nil => trivial
        | cons q l ih => exact ⟨⟨rfl, av_rel hA q.2⟩, ih⟩) w
      exact Yld.of_value rfl h1 ⟨h2, Fr.refl _ _⟩
    · cases h
  case load t x =>
    split at h
    · rename_i ti b off ht hx
      have hr := av_rel hA x
      rw [hx] at hr
      obtain ⟨hb, he⟩ := hr
      obtain ⟨z, h1, h2⟩ := aload_ok (P := P) (tt := tt) (tt_ok htt ht) hH h hp
      exact Yld.of_value (s := Instr.loadAt t (a.eval x)) rfl (by simp only [Instr.loadAt, he, Instr.sureAddr, pure_bind]; exact h1) ⟨h2, Fr.refl _ _⟩
    · cases h
  case nilCheck x =>
    split at h
    · rename_i b off hx
      cases h
      have hr := av_rel hA x
      rw [hx] at hr
      obtain ⟨hb, he⟩ := hr
      exact .inl ⟨_, w, by simp [execOp, he], ⟨hb, rfl⟩, Fr.refl _ _⟩
    · cases h
  case binOp op T x y T' =>
    obtain ⟨z, n, h1, h2⟩ := abin_ok (P := P) w htt h hp (av_rel hA x) (av_rel hA y) x y
    exact Yld.of_value (s := do eqGuard op T x y (a.eval x) (a.eval y); binOp op T (a.eval x) (a.eval y)) rfl h1 ⟨h2, Fr.drewN _ _ _⟩
  case unOp op T x =>
    cases op <;> simp only at h <;> first | (cases h; done) | skip
    case neg =>
      split at h
      · rename_i v' hv
        cases h
        have hr := av_rel hA x
        unfold aneg at hv
        split at hv
        · rename_i k e hb
          cases hv
          rw [hb] at hr
          obtain ⟨b, hx, hf⟩ := hr
          have hx : a.eval x = .float k b := hx
          exact Yld.of_value (s := Op.unary .neg (a.eval x)) rfl (by rw [hx]; rfl) ⟨⟨_, rfl, fneg_ok hf⟩, Fr.refl _ _⟩
        · cases hv
      · cases h
    split at h
    · rename_i v' hv
      cases h
      have hr := av_rel hA x
      unfold anot at hv
      split at hv
      · rename_i b hb
        cases hv
        rw [hb] at hr
        have hr : a.eval x = .bool b := hr
        exact Yld.of_value (s := Op.unary .not (a.eval x)) rfl (by rw [hr]; rfl) ⟨rfl, Fr.refl _ _⟩
      · rename_i t hb
        cases hv
        rw [hb] at hr
        have hr : a.eval x = .bool (t ()) := hr
        exact Yld.of_value (s := Op.unary .not (a.eval x)) rfl (by rw [hr]; rfl) ⟨rfl, Fr.refl _ _⟩
      · cases hv
    · cases h
  case convert src d x =>
    split at h
    · rename_i r hr
      cases h
      obtain ⟨z, n, h1, h2⟩ := aconv_ok (P := P) htt hr hp (av_rel hA x) w
      exact Yld.of_value rfl h1 ⟨h2, Fr.drewN _ _ _⟩
    · obtain ⟨z, h1, h2⟩ := aconvS_ok (P := P) htt h hp hH (av_rel hA x)
      exact Yld.of_value (s := convert src d (a.eval x)) rfl h1 ⟨h2, Fr.refl _ _⟩
  case slice t x lo hi mx =>
    cases mx <;> simp only at h <;> first | (cases h; done) | skip
    have ro : ∀ y : Option Operand, relO μ H.length (y.map (av A)) (y.map a.eval) := fun y => by
      cases y with
      | none => trivial
      | some y => exact av_rel hA y
    split at h
    · rename_i r hr
      cases h
      obtain ⟨z, h1, h2⟩ := aslice_ok (P := P) htt hr hp hH (av_rel hA x) (ro lo) (ro hi)
      exact Yld.of_value (s := Instr.sliceAt t (a.eval x) (lo.map a.eval) (hi.map a.eval) none) rfl h1 ⟨h2, Fr.refl _ _⟩
    · obtain ⟨z, h1, h2⟩ := asliceS_ok (P := P) htt h hp (av_rel hA x) (ro lo) (ro hi) w
      exact Yld.of_value (s := Instr.sliceAt t (a.eval x) (lo.map a.eval) (hi.map a.eval) none) rfl h1 ⟨h2, Fr.refl _ _⟩
  case fieldAddr s x f =>
    split at h
    · rename_i v' hv
      cases h
      obtain ⟨z, h1, h2⟩ := afieldAddr_ok (P := P) htt hv (av_rel hA x) w
      exact Yld.of_value rfl h1 ⟨h2, Fr.refl _ _⟩
    · cases h
  case field s x f =>
    split at h
    · rename_i v' hv
      cases h
      obtain ⟨z, h1, h2⟩ := afield_ok (P := P) htt hv (av_rel hA x) w
      exact Yld.of_value rfl h1 ⟨h2, Fr.refl _ _⟩
    · cases h
  case indexAddr t x i =>
    obtain ⟨z, h1, h2⟩ := aindexAddr_ok (P := P) htt h hp (av_rel hA x) (av_rel hA i) w
    exact Yld.of_value rfl h1 ⟨h2, Fr.refl _ _⟩
  case index t x i =>
    split at h
    · rename_i v' hv
      cases h
      obtain ⟨z, h1, h2⟩ := aindex_ok (P := P) htt hv (av_rel hA x) (av_rel hA i) w
      exact Yld.of_value rfl h1 ⟨h2, Fr.refl _ _⟩
    · obtain ⟨z, h1, h2⟩ := aindexS_ok (P := P) htt h hp (av_rel hA x) (av_rel hA i) w
      exact Yld.of_value rfl h1 ⟨h2, Fr.refl _ _⟩
  case extract x i =>
    split at h
    · rename_i v' hv
      cases h
      unfold aextract at hv
      split at hv
      · rename_i vs hx
        have hr := av_rel hA x
        rw [hx] at hr
        obtain ⟨ws, he, hr⟩ := hr
        obtain ⟨z, hz, r⟩ := hr.get hv
        refine Yld.of_value (s := Instr.extract (a.eval x) i) rfl (v := z) (by rw [he]; simp [Instr.extract, hz]) ⟨?_, Fr.refl _ _⟩
        cases v with
        | t vs => exact r.elim
        | c x => exact r
        | a cs => exact r
        | u => trivial
        | n => exact r
      · cases hv
    · cases h
  case call c =>
    split at h
    · rename_i hc
      split at h
      · rename_i x t hx ht
        split at h
        · rename_i ti hti
          split at h
          · rename_i v' hv
            cases h
            obtain ⟨z, h1, h2⟩ := lenA_ok (P := P) (tt_ok htt hti).kind hv (av_rel hA x) ty w
            refine .inl ⟨z, w, ?_, h2, Fr.refl _ _⟩
            have e1 : c.args.map a.eval = #[a.eval x] := by
              rw [← Array.toList_inj]; simp [hx]
            have e2 : c.argTypes = #[t] := by rw [← Array.toList_inj]; simp [ht]
            simp only [execOp, resolve, hc, pure_bind, invoke, builtin, e1, e2, Sem.run_bind, h1, Result.andThen_ok, Sem.run_pure]
          · cases h
        · cases h
      · cases h
    · rename_i hc
      split at h
      · rename_i x hx
        split at h
        · rename_i k r m hv
          cases h
          have hr := av_rel hA x
          rw [hv] at hr
          obtain ⟨p, q, he, h1, h2⟩ := hr
          refine .inl ⟨.float k p, w, ?_, ⟨p, rfl, h1⟩, Fr.refl _ _⟩
          have e1 : c.args.map a.eval = #[a.eval x] := by
            rw [← Array.toList_inj]; simp [hx]
          simp only [execOp, resolve, hc, pure_bind, invoke, builtin, e1, he, real_at, Sem.run_pure]
        · cases h
      · cases h
    · rename_i hc
      split at h
      · rename_i x hx
        split at h
        · rename_i k r m hv
          cases h
          have hr := av_rel hA x
          rw [hv] at hr
          obtain ⟨p, q, he, h1, h2⟩ := hr
          refine .inl ⟨.float k q, w, ?_, ⟨q, rfl, h2⟩, Fr.refl _ _⟩
          have e1 : c.args.map a.eval = #[a.eval x] := by
            rw [← Array.toList_inj]; simp [hx]
          simp only [execOp, resolve, hc, pure_bind, invoke, builtin, e1, he, imag_at, Sem.run_pure]
        · cases h
      · cases h
    · rename_i hc
      split at h
      · rename_i x y hx
        split at h
        · rename_i r m hv hv2
          cases h
          have hr := av_rel hA x
          rw [hv] at hr
          have hr2 := av_rel hA y
          rw [hv2] at hr2
          obtain ⟨p, he, h1⟩ := hr
          obtain ⟨q, he2, h2⟩ := hr2
          refine .inl ⟨.complex .f32 p q, w, ?_, ⟨p, q, rfl, h1, h2⟩, Fr.refl _ _⟩
          have e1 : c.args.map a.eval = #[a.eval x, a.eval y] := by
            rw [← Array.toList_inj]; simp [hx]
          simp only [execOp, resolve, hc, pure_bind, invoke, builtin, e1, he, he2, complex_at, Sem.run_pure]
        · cases h
      · cases h
    · rename_i f hc
      split at h
      · rename_i g args hcal
        split at h
        · rename_i s hs
          obtain ⟨vs, r1, r2⟩ := callee_ok hcal hA ty
          unfold acallQ at h
          split at h
          · cases h
          · rename_i hd
            split at h
            · rename_i v' H' o' hac
              split at h
              · rename_i hlen
                cases h
                have hlen := beqN_eq hlen
                have hex : (execOp a.eval ⟨dst, .call c, ty, pos, after, gd⟩) = callFunc g vs.toArray := r2
                rcases acall_ok (hE g s hs).1 hac hp hW hH r1 with ⟨k1, k2⟩ | ⟨z, w', k1, k2⟩
                · refine .inr (.inr ⟨g, vs.toArray, by rw [hex]; exact k1, k2.mono fun e w' ⟨z, he, ⟨ν, a1, a2, a3, a4, a5⟩, a6⟩ => ⟨z, he, ?_, a6 hd⟩⟩)
                  rw [hlen] at a4
                  exact a4.mono (fun i hi => (a1 i hi).symm) (Nat.le_refl _)
                · obtain ⟨⟨ν, a1, a2, a3, a4, a5⟩, a6⟩ := k2
                  rw [hlen] at a4
                  exact .inl ⟨z, w', by rw [hex]; exact k1, a4.mono (fun i hi => (a1 i hi).symm) (Nat.le_refl _), a6 hd⟩
              · cases h
            · cases h
        · cases h
      · cases h
    · cases h
end Go.Proofs.YteifneielgnniaaGreatDoor.Sh
namespace Go.Proofs.YteifneielgnniaaGreatDoor.Sh
open Go Ieee
/-! ### rows -/
theorem reps_len (z : List C) : ∀ n, (reps z n).length = n * z.length
  | 0 => by simp [reps]
  | n + 1 => by simp [reps, reps_len z n, Nat.add_mul, Nat.add_comm]
theorem repL_len {α : Type} (z : List α) : ∀ n, (repL z n).length = n * z.length
  | 0 => by simp [repL]
  | n + 1 => by simp [repL, repL_len z n, Nat.add_mul, Nat.add_comm]
theorem repL_get {α : Type} (z : List α) : ∀ n j, j < n * z.length → (repL z n)[j]? = z[j % z.length]?
  | 0, j, h => by simp at h
  | n + 1, j, h => by
    unfold repL
    rcases Nat.lt_or_ge j z.length with hj | hj
    · rw [List.getElem?_append_left hj, Nat.mod_eq_of_lt hj]
    · rw [List.getElem?_append_right hj, repL_get z n (j - z.length) (by rw [Nat.add_mul] at h; omega)]
      congr 1
      rw [Nat.mod_eq_sub_mod hj]
theorem reps_eq (z : List C) : ∀ n, reps z n = repL z n
  | 0 => rfl
  | n + 1 => by simp [reps, repL, reps_eq z n]
theorem seg_at {c s : Cells} {o k : NE} {p : Obl} (h : c.seg o k = some (s, p)) (hp : holds p) :
    s.len.val = k.val ∧ (∀ j, j < k.val → s.at j = c.at (o.val + j)) ∧ (∀ j, j < k.val → ∃ x, s.at j = some x) := by
  unfold Cells.seg at h
  split at h
  · rename_i l o k
    split at h
    · rename_i hb
      have hb := ble_le hb
      cases h
      refine ⟨by simp [Cells.len, NE.val]; omega, fun j hj => ?_, fun j hj => ?_⟩
      · simp only [NE.val] at hj ⊢
        simp [Cells.at, hj, List.getElem?_drop]
      · simp only [NE.val] at hj
        exact ⟨l[o + j]'(by omega), by simp [Cells.at, hj, List.getElem?_drop]⟩
    · cases h
  · cases h
  all_goals
    rename_i l
    cases h
    have hb := hp.one
    refine ⟨by show (((l ()).drop o.val).take k.val).length = k.val; rw [List.length_take, List.length_drop]; omega, fun j hj => ?_, fun j hj => ?_⟩
    · simp [Cells.at, hj, List.getElem?_drop]
    · have : o.val + j < (l ()).length := by omega
      exact ⟨_, by simp [Cells.at, hj, List.getElem?_drop, this]; rfl⟩
def catAt (x y : Cells) (j : Nat) : Option C := if j < x.len.val then x.at j else y.at (j - x.len.val)
theorem cat_pair {x y c : Cells} {a b d : Cells} (hx : CellsLe x a) (hl : x.len.val = a.len.val) (hy : CellsLe y b) (hd : ∀ j, d.at j = if j < a.len.val then a.at j else b.at (j - a.len.val)) (hc : c = d) :
    ∀ j z, c.at j = some z → ∃ u, catAt x y j = some u ∧ ∀ μ N v, relC μ N u v → relC μ N z v := by
  intro j z hz
  subst hc
  rw [hd] at hz
  unfold catAt
  rw [hl]
  split at hz
  · rename_i h; rw [if_pos h]; exact hx j z hz
  · rename_i h; rw [if_neg h]; exact hy _ z hz
theorem cat_ok {x y c : Cells} (h : x.cat y = some c) : ∀ j z, c.at j = some z → ∃ u, catAt x y j = some u ∧ ∀ μ N v, relC μ N u v → relC μ N z v := by
  have kf : ∀ (a b : Unit → List Nat) (j : Nat), (Cells.fl fun _ => a () ++ b ()).at j = if j < (Cells.fl a).len.val then (Cells.fl a).at j else (Cells.fl b).at (j - (Cells.fl a).len.val) := fun a b j => by
    simp only [Cells.at, Cells.len, NE.val, List.getElem?_append]; by_cases hj : j < (a ()).length <;> simp [hj]
  have kc : ∀ (a b : Unit → List (Nat × Nat)) (j : Nat), (Cells.cx fun _ => a () ++ b ()).at j = if j < (Cells.cx a).len.val then (Cells.cx a).at j else (Cells.cx b).at (j - (Cells.cx a).len.val) := fun a b j => by
    simp only [Cells.at, Cells.len, NE.val, List.getElem?_append]; by_cases hj : j < (a ()).length <;> simp [hj]
  have ks : ∀ (a b : Unit → List ByteArray) (j : Nat), (Cells.sx fun _ => a () ++ b ()).at j = if j < (Cells.sx a).len.val then (Cells.sx a).at j else (Cells.sx b).at (j - (Cells.sx a).len.val) := fun a b j => by
    simp only [Cells.at, Cells.len, NE.val, List.getElem?_append]; by_cases hj : j < (a ()).length <;> simp [hj]
  have ki : ∀ (k : IntKind) (a b : Unit → List Int) (j : Nat), (Cells.it k fun _ => a () ++ b ()).at j = if j < (Cells.it k a).len.val then (Cells.it k a).at j else (Cells.it k b).at (j - (Cells.it k a).len.val) := fun k a b j => by
    simp only [Cells.at, Cells.len, NE.val, List.getElem?_append]; by_cases hj : j < (a ()).length <;> simp [hj]
  cases x with
  | lit a =>
    cases y with
    | lit b =>
      simp only [Cells.cat, Option.some.injEq] at h
      subst h
      refine cat_pair (a := .lit a) (b := .lit b) (d := .lit (a ++ b)) (CellsLe.refl _) rfl (CellsLe.refl _) (fun j => ?_) rfl
      simp only [Cells.at, Cells.len, NE.val, List.getElem?_append]
      by_cases hj : j < a.length <;> simp [hj]
    | fl b =>
      simp only [Cells.cat] at h
      split at h
      · rename_i q hq
        cases h
        exact cat_pair (a := .fl q) (b := .fl b) (toFl_le hq).1 (toFl_le hq).2 (CellsLe.refl _) (kf q b) rfl
      · cases h
    | cx b =>
      simp only [Cells.cat] at h
      split at h
      · rename_i q hq
        cases h
        exact cat_pair (a := .cx q) (b := .cx b) (toCx_le hq).1 (toCx_le hq).2 (CellsLe.refl _) (kc q b) rfl
      · cases h
    | sx b =>
      simp only [Cells.cat] at h
      split at h
      · rename_i q hq
        cases h
        exact cat_pair (a := .sx q) (b := .sx b) (toSx_le hq).1 (toSx_le hq).2 (CellsLe.refl _) (ks q b) rfl
      · cases h
    | it k b =>
      simp only [Cells.cat] at h
      split at h
      · rename_i q hq
        cases h
        exact cat_pair (a := .it k q) (b := .it k b) (toIt_le hq).1 (toIt_le hq).2 (CellsLe.refl _) (ki k q b) rfl
      · cases h
  | fl a =>
    simp only [Cells.cat] at h
    split at h
    · rename_i q hq
      cases h
      exact cat_pair (a := .fl a) (b := .fl q) (CellsLe.refl _) rfl (toFl_le hq).1 (kf a q) rfl
    · cases h
  | cx a =>
    simp only [Cells.cat] at h
    split at h
    · rename_i q hq
      cases h
      exact cat_pair (a := .cx a) (b := .cx q) (CellsLe.refl _) rfl (toCx_le hq).1 (kc a q) rfl
    · cases h
  | sx a =>
    simp only [Cells.cat] at h
    split at h
    · rename_i q hq
      cases h
      exact cat_pair (a := .sx a) (b := .sx q) (CellsLe.refl _) rfl (toSx_le hq).1 (ks a q) rfl
    · cases h
  | it k a =>
    simp only [Cells.cat] at h
    split at h
    · rename_i q hq
      cases h
      exact cat_pair (a := .it k a) (b := .it k q) (CellsLe.refl _) rfl (toIt_le hq).1 (ki k a q) rfl
    · cases h
theorem eqN_ok {a b : NE} {p : Obl} (h : eqN a b = some p) (hp : holds p) : a.val = b.val := by
  unfold eqN at h
  split at h
  · split at h
    · rename_i hb; exact beqN_eq hb
    · cases h
  · cases h; exact hp.one
theorem leN_ok {a : NE} {k : Nat} {p : Obl} (h : leN a k = some p) (hp : holds p) : a.val ≤ k := by
  unfold leN at h
  split at h
  · split at h
    · rename_i hb; exact ble_le hb
    · cases h
  · cases h; exact hp.one
theorem len_at {c : Cells} {j : Nat} (h : j < c.len.val) : ∃ x, c.at j = some x := by
  cases c with
  | lit l => have h : j < l.length := h; exact ⟨l[j], by simp [Cells.at, h]⟩
  | fl l => have h : j < (l ()).length := h; exact ⟨_, by simp [Cells.at, h]; rfl⟩
  | cx l => have h : j < (l ()).length := h; exact ⟨_, by simp [Cells.at, h]; rfl⟩
  | sx l => have h : j < (l ()).length := h; exact ⟨_, by simp [Cells.at, h]; rfl⟩
  | it k l => have h : j < (l ()).length := h; exact ⟨_, by simp [Cells.at, h]; rfl⟩
theorem at_len {c : Cells} {j : Nat} {x : C} (h : c.at j = some x) : j < c.len.val := by
  cases c with
  | lit l => exact lt_of_get h
  | fl l => simp only [Cells.at, Option.map_eq_some_iff] at h; obtain ⟨_, h, _⟩ := h; exact lt_of_get h
  | cx l => simp only [Cells.at, Option.map_eq_some_iff] at h; obtain ⟨_, h, _⟩ := h; exact lt_of_get h
  | sx l => simp only [Cells.at, Option.map_eq_some_iff] at h; obtain ⟨_, h, _⟩ := h; exact lt_of_get h
  | it k l => simp only [Cells.at, Option.map_eq_some_iff] at h; obtain ⟨_, h, _⟩ := h; exact lt_of_get h
/-- zeros -/
theorem zeroRow_at {z : List C} {n : NE} {c : Cells} (h : zeroRow z n = some c) {j : Nat} {x : C} (hx : c.at j = some x) : j < n.val * z.length ∧ ∃ y, z[j % z.length]? = some y ∧ ∀ μ N v, relC μ N y v → relC μ N x v := by
  unfold zeroRow at h
  split at h
  · rename_i n
    cases h
    have hj := lt_of_get hx
    rw [reps_len] at hj
    have hx : (reps z n)[j]? = some x := hx
    rw [reps_eq, repL_get _ _ _ hj] at hx
    exact ⟨hj, x, hx, fun _ _ _ r => r⟩
  · rename_i n
    split at h
    · rename_i q hq
      cases h
      obtain ⟨h1, h2⟩ := flsOf_get hq
      have hj := at_len hx
      simp only [Cells.len, NE.val, repL_len, forced_len, h1] at hj ⊢
      refine ⟨hj, ?_⟩
      simp only [Cells.at] at hx
      rw [repL_get _ _ _ (by rw [forced_len, h1]; exact hj), forced_len, h1, forced_get] at hx
      rw [h2]
      cases hg : q[j % z.length]? with
      | none => rw [hg] at hx; simp at hx
      | some e => rw [hg] at hx; simp at hx; subst hx; exact ⟨_, rfl, fun _ _ _ r => r⟩
    · split at h
      · rename_i q hq
        cases h
        obtain ⟨h1, h2⟩ := cxsOf_get hq
        have hj := at_len hx
        simp only [Cells.len, NE.val, repL_len, forced_len, h1] at hj ⊢
        refine ⟨hj, ?_⟩
        have hpos : 0 < z.length := Nat.pos_of_ne_zero fun h0 => by rw [h0] at hj; simp at hj
        have hm : j % z.length < z.length := Nat.mod_lt _ hpos
        have hz : z[j % z.length]? = some (z[j % z.length]'hm) := List.getElem?_eq_getElem hm
        simp only [Cells.at] at hx
        rw [repL_get _ _ _ (by rw [forced_len, h1]; exact hj), forced_len, h1, forced_get] at hx
        obtain ⟨e, m, he, hq'⟩ := h2 _ _ hz
        rw [hq'] at hx
        simp at hx
        subst hx
        refine ⟨_, hz, ?_⟩
        rw [he]; exact fun _ _ _ r => r
      · split at h
        · rename_i q hq
          cases h
          obtain ⟨h1, h2⟩ := itsOf_get hq
          have hj := at_len hx
          simp only [Cells.len, NE.val, repL_len, forced_len, h1] at hj ⊢
          refine ⟨hj, ?_⟩
          have hpos : 0 < z.length := Nat.pos_of_ne_zero fun h0 => by rw [h0] at hj; simp at hj
          have hm : j % z.length < z.length := Nat.mod_lt _ hpos
          have hz : z[j % z.length]? = some (z[j % z.length]'hm) := List.getElem?_eq_getElem hm
          simp only [Cells.at] at hx
          rw [repL_get _ _ _ (by rw [forced_len, h1]; exact hj), forced_len, h1, forced_get] at hx
          obtain ⟨e, he, hq'⟩ := h2 _ _ hz
          rw [hq'] at hx
          simp at hx
          subst hx
          refine ⟨_, hz, ?_⟩
          rw [he]; exact fun _ _ _ r => r
        · cases h
end Go.Proofs.YteifneielgnniaaGreatDoor.Sh
namespace Go.Proofs.YteifneielgnniaaGreatDoor.Sh
open Go Ieee
/-- behind an operation that may write -/
def Aft (μ : Nat → Loc) (W : Nat → Prop) (N : Nat) (w : World) (v : V) (H' : Heap) (x : Value) (w' : World) : Prop :=
  ∃ ν, agree N μ ν ∧ N ≤ H'.length ∧ HRel ν W H' w' ∧ relV ν H'.length v x ∧ Fr W w w'
theorem run_newVar {P : Program} (t : TypeId) (v : Value) (w : World) : (newVar t v).run P w = .ok ⟨w.heap.size, 0, none⟩ (w.alloc (.cells v.cells t)) := by
  simp [newVar, newRow, newObj, Sem.run]
theorem anew_ok {μ : Nat → Loc} {W : Nat → Prop} {H : Heap} {w : World} (hW : ∀ k, w.heap.size ≤ k → W k) (hH : HRel μ W H w) {cs : List C} {vs : Array Value} (hr : relL (relC μ H.length) cs vs.toList) (e : TypeId) :
    Aft μ W H.length w (anew H 0 cs).1 (anew H 0 cs).2 (.pointer (some ⟨w.heap.size, 0, none⟩)) (w.alloc (.cells vs e)) := by
  have hp := hH.push (B := ⟨true, 0, .lit cs⟩) (cells := vs) (e := e) (hW _ (Nat.le_refl _)) (fun ν ha j x hx => by
    obtain ⟨v, hv, r⟩ := hr.get (show cs[j]? = some x from hx)
    exact ⟨v, by simpa using hv, r.mono ha (by omega)⟩) 0 (Nat.zero_le _)
  refine ⟨_, agree_upd _ _ _, by simp [anew], hp, ⟨by simp [anew], ?_⟩, (alloc_fr _).mono fun k hk h => h.elim⟩
  rw [upd_self]; rfl
theorem range_cells {z : Array Value} {n : Nat} {i : Nat} (h : i < n) (hz : 0 < z.size) : ((Array.range n).map (z[· % z.size]!))[i]? = z[i % z.size]? := by
  have hm : i % z.size < z.size := Nat.mod_lt _ hz
  simp [h, hm]
theorem run_buildSlice {P : Program} (w : World) {t e len : Nat} {i : TypeInfo} {z : Value} (ht : P.underlying t = some (.slice e)) (hi : P.info? e = some i) (hz : i.zero = some z) (hl : len * i.size ≤ 2 ^ 24) {parts : Array (Nat × Value)} {cells : Array Value}
    (hf : Instr.fill (fun k => some (k * i.size, i.size)) ((Array.range (len * i.size)).map (z.cells[· % z.cells.size]!)) parts.toList = some cells) :
    (Instr.buildSlice t len parts).run P w = .ok (.slice (some ⟨w.heap.size, 0, none⟩) len len) (w.alloc (.cells cells e)) := by
  have hl' : ¬ (2 ^ 24 < len * i.size) := by omega
  by_cases h0 : len * i.size = 0
  · rw [h0] at hf
    have e0 : (Array.range 0).map (z.cells[· % z.cells.size]!) = #[] := by simp
    rw [e0] at hf
    simp [Instr.buildSlice, run_underlying ht, sizeOf, typeInfo, hi, h0, Array.range_zero']
    simp [hf, Sem.run, newRow, newObj]
  · simp [Instr.buildSlice, run_underlying ht, sizeOf, typeInfo, hi, h0, hl', zeroValue, hz]
    simp [hf, Sem.run, newRow, newObj]
theorem abuildSlice_ok {P : Program} {tt : TT} (htt : TtOk P tt) {μ : Nat → Loc} {W : Nat → Prop} {H H' : Heap} {w : World} (hW : ∀ k, w.heap.size ≤ k → W k) (hH : HRel μ W H w) {t len : Nat} {ps : List (Nat × V)} {v : V}
    (h : abuildSlice tt H t len ps = some (v, H')) {qs : Array (Nat × Value)} (hq : relL (partOk μ H.length) ps qs.toList) : ∃ x w', (Instr.buildSlice t len qs).run P w = .ok x w' ∧ Aft μ W H.length w v H' x w' := by
  unfold abuildSlice at h
  split at h
  · rename_i ti ht
    split at h
    · rename_i e hk
      have hu := und_sl htt ht hk
      split at h
      · rename_i te hte
        split at h
        · rename_i cs m hf hle hsz
          cases h
          obtain ⟨i, hi, hs, hb, z, hz, hzr, hag⟩ := (tt_ok htt hte).info
          have hle := ble_le hle
          have hzl : te.zero.length = z.cells.size := by rw [(hzr μ H.length).len]; simp
          have hzq := (tt_ok htt hte).zlen
          have hbase : relL (relC μ H.length) (reps te.zero len) ((Array.range (len * i.size)).map (z.cells[· % z.cells.size]!)).toList := by
              refine relL_of_get (by simp [reps_len, hzq, hs]) fun j x y hx hy => ?_
              have hj := lt_of_get hx
              rw [reps_len] at hj
              rw [reps_eq, repL_get _ _ _ hj] at hx
              have hpos : 0 < z.cells.size := by rw [← hzl, hzq, hsz]; omega
              rw [Array.getElem?_toList, range_cells (by rw [hs, ← hzq]; exact hj) hpos] at hy
              rw [hzl] at hx
              obtain ⟨y', hy', r⟩ := (hzr μ H.length).get hx
              rw [Array.getElem?_toList] at hy'
              rw [hy] at hy'; cases hy'; exact r
          · rw [← hs] at hf
            obtain ⟨arr, h1, h2⟩ := fill_ok hf hbase hq
            have hlen : arr.size = len * (m + 1) := by
              rw [← Array.length_toList, ← h2.len]
              have : ∀ {place : Nat → Option (Nat × Nat)} {ps : List (Nat × V)} {z cs : List C}, fillA place z ps = some cs → cs.length = z.length := by
                intro place ps
                induction ps with
                | nil => intro z cs h; simp only [fillA, Option.some.injEq] at h; subst h; rfl
                | cons q ps ih =>
                  intro z cs h
                  obtain ⟨i, v⟩ := q
                  unfold fillA at h
                  split at h
                  · split at h
                    · rw [ih h, putAll_len]
                    · cases h
                  · cases h
              rw [this hf, hbase.len]; simp [hs, hsz]
            have hrun := run_buildSlice (P := P) w hu hi hz (by rw [hs]; exact hle) h1
            have hp := hH.push (B := ⟨true, m + 1, .lit cs⟩) (cells := arr) (e := e) (hW _ (Nat.le_refl _)) (fun ν ha j x hx => by
              obtain ⟨v, hv, r⟩ := h2.get (show cs[j]? = some x from hx)
              exact ⟨v, by simpa using hv, r.mono ha (by omega)⟩) arr.size (Nat.le_refl _)
            refine ⟨_, _, hrun, _, agree_upd _ _ _, by simp, hp, ⟨by simp, len, _, Nat.le_refl _, ?_, .inr rfl, ?_⟩, (alloc_fr _).mono fun k hk h => h.elim⟩
            · rw [upd_self]; right; show 0 + len * (m + 1) ≤ arr.size; omega
            · rw [upd_self]; rfl
        · cases h
      · cases h
    · cases h
  · cases h
end Go.Proofs.YteifneielgnniaaGreatDoor.Sh
namespace Go.Proofs.YteifneielgnniaaGreatDoor.Sh
open Go Ieee
theorem amakeSlice_ok {P : Program} {tt : TT} (htt : TtOk P tt) {μ : Nat → Loc} {W : Nat → Prop} {H H' : Heap} {w : World} (hW : ∀ k, w.heap.size ≤ k → W k) (hH : HRel μ W H w) {t : Nat} {l c v : V} {p : Obl}
    (h : amakeSlice tt H t l c = some (v, H', p)) (hp : holds p) {x y : Value} (hl : relV μ H.length l x) (hc : relV μ H.length c y) : ∃ z w', (Instr.makeSlice t x y).run P w = .ok z w' ∧ Aft μ W H.length w v H' z w' := by
  unfold amakeSlice at h
  split at h
  · rename_i ti kl n kc k ht
    split at h
    · rename_i e hk
      have hu := und_sl htt ht hk
      split at h
      · rename_i te hte
        split at h
        · rename_i cs m hz hsz
          cases h
          obtain ⟨h0, hkn, hb, h63⟩ := hp.one
          obtain ⟨i, hi, hs, hbt, z, hzz, hzr, hag⟩ := (tt_ok htt hte).info
          have hzq := (tt_ok htt hte).zlen
          have hzl : te.zero.length = z.cells.size := by rw [(hzr μ H.length).len]; simp
          rw [show x = .int kl n.val from hl, show y = .int kc n.val from hkn ▸ hc]
          have hrun := run_make (P := P) w t e i z hu hi hzz kl kc n.val n.val h0 (Int.le_refl _) (by rw [hbt]; exact hb) h63
          have hnn : n.nat.val = n.val.toNat := IE.nat_val n
          have hp := hH.push (B := ⟨true, m + 1, cs⟩) (cells := madeCells z.cells (n.val.toNat * i.size)) (e := e) (hW _ (Nat.le_refl _)) (fun ν ha j x hx => by
            obtain ⟨hj, u, hu', r⟩ := zeroRow_at hz hx
            rw [hnn, hzq] at hj
            have hpos : 0 < z.cells.size := by rw [← hzl, hzq, hsz]; omega
            rw [hzl] at hu'
            obtain ⟨u2, hu2, r2⟩ := (hzr ν (H.length + 1)).get hu'
            refine ⟨u2, ?_, r _ _ _ r2⟩
            have := range_cells (z := z.cells) (n := n.val.toNat * i.size) (i := j) (by rw [hs]; exact hj) hpos
            rw [Array.getElem?_toList] at hu2
            unfold madeCells
            rw [this]; exact hu2) (n.val.toNat * i.size) (by simp [madeCells])
          refine ⟨_, _, hrun, _, agree_upd _ _ _, by simp, hp, ⟨by simp, n.val.toNat, _, by rw [hnn]; exact Nat.le_refl _, ?_, .inr rfl, ?_⟩, (alloc_fr _).mono fun k hk h => h.elim⟩
          · rw [upd_self]; right; show 0 + n.val.toNat * (m + 1) ≤ n.val.toNat * i.size; rw [hs, hsz, Nat.zero_add]; exact Nat.le_refl _
          · rw [upd_self, hnn]; rfl
        · cases h
      · cases h
    · cases h
  · cases h
/-! ### append -/
theorem raw_store {P : Program} {g o : Nat} {e : TypeId} {fz : Nat × Nat} (hfz : fz.2 ≤ fz.1) : ∀ (vs : List Value) (i : Nat) (cur : Array Value) (w : World), w.heap[g]? = some (.cells cur e fz) → o + i + vs.length ≤ cur.size → (∀ v ∈ vs, (∀ cs, v ≠ .agg cs) ∧ ∀ cs, v ≠ .tuple cs) →
    ∃ w' cur', (storeCells ⟨g, o, none⟩ vs i).run P w = .ok () w' ∧ w'.heap[g]? = some (.cells cur' e fz) ∧ cur'.size = cur.size ∧ (∀ j, j < o + i → cur'[j]? = cur[j]?) ∧ (∀ j, j < vs.length → cur'[o + i + j]? = vs[j]?) ∧ Fr (fun k => k = g) w w'
  | [], i, cur, w, hg, _, _ => ⟨w, cur, rfl, hg, rfl, fun _ _ => rfl, fun j hj => by simp at hj, Fr.refl _ _⟩
  | v :: vs, i, cur, w, hg, hl, hs => by
    simp only [List.length_cons] at hl
    have hadd : (⟨g, o, none⟩ : Addr).add i = ⟨g, o + i, none⟩ := by
      unfold Addr.add; split
      · rename_i h; subst h; rfl
      · rfl
    have hc : w.cell? ⟨g, o + i, none⟩ = some (cur[o + i]'(by omega)) := by
      simp only [World.cell?, hg]
      simp
    have hf : w.frozen? ⟨g, o + i, none⟩ = false := by
      obtain ⟨lo, hi⟩ := fz
      simp only at hfz
      simp only [World.frozen?, hg]
      rw [Bool.and_eq_false_iff]
      by_cases hq : lo ≤ o + i
      · right; exact decide_eq_false (by omega)
      · left; exact decide_eq_false hq
    have h1 := run_store1 (P := P) (hs v (by simp)) hc hf
    have hg' := setCell_same (v := v) (off := o + i) hg
    obtain ⟨w', cur', k1, k2, k3, k4, k5, k6⟩ := raw_store (P := P) (o := o) hfz vs (i + 1) (cur.setIfInBounds (o + i) v) _ hg' (by simp; omega) (fun u hu => hs u (by simp [hu]))
    refine ⟨w', cur', ?_, k2, by simpa using k3, fun j hj => ?_, fun j hj => ?_, (setCell_fr (W := fun k => k = g) (v := v) (a := ⟨g, o + i, none⟩) rfl).trans k6⟩
    · simp only [storeCells, Sem.run_bind, hadd, h1, Result.andThen_ok]; exact k1
    · rw [k4 j (by omega), Array.getElem?_setIfInBounds_ne (by omega)]
    · cases j with
      | zero =>
        rw [k4 _ (by omega)]
        simp only [Nat.add_zero, List.getElem?_cons_zero]
        rw [Array.getElem?_setIfInBounds_self]; simp; omega
      | succ j =>
        simp only [List.length_cons] at hj
        have := k5 j (by omega)
        simp only [List.getElem?_cons_succ]
        rw [← this]; congr 1; omega
theorem HRel.drop {μ : Nat → Loc} {W : Nat → Prop} {H : Heap} {w : World} (h : HRel μ W H w) (b : Nat) : HRel μ W (H.set b none) w := by
  have hset : ∀ (q : Nat) (F : Blk), (H.set b none)[q]? = some (some F) → b ≠ q ∧ H[q]? = some (some F) := fun q F hq => by
    by_cases hqb : b = q
    · subst hqb
      rcases Nat.lt_or_ge b H.length with hl | hl
      · rw [List.getElem?_set_self hl] at hq; cases hq
      · rw [List.getElem?_eq_none (by simpa using hl)] at hq; cases hq
    · rw [List.getElem?_set_ne hqb] at hq; exact ⟨hqb, hq⟩
  refine ⟨fun i B hi => by rw [List.length_set]; exact h.blk i B (hset i B hi).2, fun i j B D hi hj => h.sep i j B D (hset i B hi).2 (hset j D hj).2⟩
/-- a row grown within its own block -/
theorem HRel.regrow {μ : Nat → Loc} {W : Nat → Prop} {H : Heap} {w w' : World} (hH : HRel μ W H w) {b : Nat} {B D : Blk} (hB : H[b]? = some (some B)) (hrw : B.rw = true) (hfr : Fr (fun k => k = (μ b).blk) w w')
    {cur : Array Value} {e : TypeId} {lo up : Nat} (hg : w'.heap[(μ b).blk]? = some (.cells cur e (lo, up))) (hlh : up ≤ lo) (hW : W (μ b).blk) {cap : Nat} (hcap : cap ≤ cur.size)
    (hc : ∀ (ν : Nat → Loc), agree H.length μ ν → ∀ j x, D.cells.at j = some x → ∃ v, cur[j]? = some v ∧ relC ν (H.length + 1) x v) :
    HRel (upd μ H.length ⟨(μ b).blk, 0, D.es, cap⟩) W (H.set b none ++ [some D]) w' := by
  have hd := hH.drop b
  have ha := agree_upd μ H.length ⟨(μ b).blk, 0, D.es, cap⟩
  have hlen : (H.set b none).length = H.length := List.length_set
  have hset : ∀ (q : Nat) (F : Blk), (H.set b none)[q]? = some (some F) → b ≠ q ∧ H[q]? = some (some F) := fun q F hq => by
    by_cases hqb : b = q
    · subst hqb
      rw [List.getElem?_set_self (lt_of_get hB)] at hq; cases hq
    · rw [List.getElem?_set_ne hqb] at hq; exact ⟨hqb, hq⟩
  have hold : ∀ i (F : Blk), (H.set b none)[i]? = some (some F) → upd μ H.length ⟨(μ b).blk, 0, D.es, cap⟩ i = μ i ∧ (μ i).blk ≠ (μ b).blk := fun i F hi => by
    obtain ⟨h1, h2⟩ := hset i F hi
    exact ⟨ha i (lt_of_get h2), fun e => hH.sep b i B F hB h2 hrw h1 e.symm⟩
  refine ⟨fun i F hi => ?_, fun i j F G hi hj hr hne => ?_⟩
  · rw [List.length_append, hlen]
    rcases get_snoc hi with ⟨rfl, hF⟩ | hi
    · cases hF
      rw [hlen, upd_self]
      exact ⟨cur, e, lo, up, hg, fun j x hx => by simpa using hc _ ha j x hx, fun _ => ⟨hW, hlh⟩, rfl, fun _ => ⟨rfl, hcap⟩⟩
    · obtain ⟨e1, e2⟩ := hold i F hi
      rw [e1]
      have hb := hH.blk i F (hset i F hi).2
      exact (hb.frame (hfr.block _ hb.lt e2)).mono ha (by simp)
  · rcases get_snoc hi with ⟨rfl, hF⟩ | hi <;> rcases get_snoc hj with ⟨rfl, hG⟩ | hj
    · exact absurd rfl hne
    · rw [hlen, upd_self, (hold j G hj).1]; exact fun e => (hold j G hj).2 e.symm
    · rw [hlen, upd_self, (hold i F hi).1]; exact (hold i F hi).2
    · rw [(hold i F hi).1, (hold j G hj).1]; exact hd.sep i j F G hi hj hr hne
/-- the concrete cells of a segment -/
theorem seg_cells {μ : Nat → Loc} {W : Nat → Prop} {H : Heap} {w : World} (hH : HRel μ W H w) {b : Nat} {B : Blk} (hB : H[b]? = some (some B)) {s : Cells} {o k : NE} {p : Obl} (h : B.cells.seg o k = some (s, p)) (hp : holds p) :
    ∃ news : List Value, news.length = k.val ∧ (∀ j u, news[j]? = some u → w.cell? ((addrOf (μ b) o.val).add j) = some u) ∧ ∀ j x, s.at j = some x → ∃ v, news[j]? = some v ∧ relC μ H.length x v := by
  obtain ⟨c, e, lo, hi, hg, hc, _⟩ := (hH.blk b B hB).out
  obtain ⟨h1, h2, h3⟩ := seg_at h hp
  have hex : ∀ j, j < k.val → ∃ x v, s.at j = some x ∧ c[(μ b).base + (o.val + j)]? = some v ∧ relC μ H.length x v := fun j hj => by
    obtain ⟨x, hx⟩ := h3 j hj
    obtain ⟨v, hv, r⟩ := hc (o.val + j) x (by rw [← h2 j hj]; exact hx)
    exact ⟨x, v, hx, hv, r⟩
  refine ⟨(List.range k.val).map fun j => (c[(μ b).base + (o.val + j)]?).getD undef, by simp, fun j u hu => ?_, fun j x hx => ?_⟩
  · have hj : j < k.val := by have := lt_of_get hu; simpa using this
    obtain ⟨x, v, _, hv, _⟩ := hex j hj
    rw [addr_add, cell_addr hg]
    simp [hj, hv] at hu
    rw [hv, hu]
  · have hj : j < k.val := by rw [← h1]; exact at_len hx
    obtain ⟨x', v, hx', hv, r⟩ := hex j hj
    rw [hx] at hx'; cases hx'
    exact ⟨v, by simp [hj, hv], r⟩
theorem drew_fr (W : Nat → Prop) (w : World) : Fr W w w.drew := ⟨rfl, rfl, rfl, Nat.le_refl _, fun _ _ _ => rfl⟩
theorem HRel.drew {μ : Nat → Loc} {W : Nat → Prop} {H : Heap} {w : World} (h : HRel μ W H w) : HRel μ W H w.drew := h.quiet (drew_fr _ _)
theorem aappend_ok {P : Program} {tt : TT} (htt : TtOk P tt) {μ : Nat → Loc} {W : Nat → Prop} {H H' : Heap} {w : World} (hW : ∀ k, w.heap.size ≤ k → W k) (hH : HRel μ W H w) {t : Nat} {s x v : V} {p : Obl}
    (h : aappend tt H t s x = some (v, H', p)) (hp : holds p) {u y : Value} (hs : relV μ H.length s u) (hx : relV μ H.length x y) (ty : TypeId) : ∃ z w', (Builtin.append_ #[t, t] ty #[u, y]).run P w = .ok z w' ∧ Aft μ W H.length w v H' z w' := by
  unfold aappend at h
  split at h
  · cases h
  · rename_i ti ht
    split at h
    · rename_i e hk
      have hu := und_sl htt ht hk
      split at h
      · cases h
      · rename_i te hte
        obtain ⟨i, hi, hsz, hbt, z0, hzz, hzr, hag⟩ := (tt_ok htt hte).info
        split at h
        · rename_i m b2 o2 n2 hm
          split at h
          · cases h
          · rename_i B2 hB2
            split at h
            · cases h
            · rename_i new p1 hseg
              obtain ⟨hb2, cap2, ad2, g1, g2, g3, rfl⟩ := hx
              have him : i.size = m + 1 := by rw [hsz, hm]
              split at h
              · -- nil
                split at h
                · rename_i n
                  split at h
                  · rename_i p2 p3 hp2 hp3
                    cases h
                    obtain ⟨q1, q23⟩ := hp.app
                    obtain ⟨q2, q3⟩ := q23.app
                    obtain ⟨news, k1, k2, k3⟩ := seg_cells hH (Heap.blk_some hB2) hseg q1
                    have had : ad2 = addrOf (μ b2) o2.val := by
                      rcases g3 with g3 | g3
                      · simp only [NE.val] at g1; omega
                      · exact g3
                    subst had
                    rw [show u = .slice none 0 0 from hs]
                    have l2 := leN_ok hp2 q2
                    have l3 := leN_ok hp3 q3
                    simp only [NE.val] at l2 l3 k1
                    have hlen : news.length = (n + 1) * i.size := by rw [k1, him]; rfl
                    have hrun := run_append_nil (P := P) w t ty e i z0 hu hi hzz (addrOf (μ b2) o2.val) (n + 1) cap2 news hlen k2 (by omega) (by omega) (by rw [hbt]; omega)
                    refine ⟨_, _, hrun, ?_⟩
                    have hge := grownCap_ge w (n + 1) 0 e
                    have hzs : z0.cells.size = m + 1 := by
                      have h1 := (hzr μ H.length).len
                      rw [(tt_ok htt hte).zlen, hm] at h1; simpa using h1.symm
                    have hpush := hH.drew.push (B := ⟨true, m + 1, new⟩) (cells := news.toArray ++ Builtin.zeroCells z0.cells (grownCap w (n + 1) 0 e - (n + 1))) (e := e) (hW _ (Nat.le_refl _)) (fun ν ha j x hx => by
                      obtain ⟨v, hv, r⟩ := k3 j x hx
                      exact ⟨v, by rw [Array.getElem?_append_left (by have := lt_of_get hv; simpa using this)]; simpa using hv, r.mono ha (by omega)⟩) (grownCap w (n + 1) 0 e * (m + 1)) (by
                        rw [Array.size_append, size_zeroCells, hzs]
                        simp only [List.size_toArray]
                        rw [hlen, him, ← Nat.add_mul]
                        exact Nat.mul_le_mul_right _ (by omega))
                    refine ⟨_, agree_upd _ _ _, by simp, hpush, ⟨by simp, grownCap w (n + 1) 0 e, _, hge, ?_, .inr rfl, ?_⟩, (drew_fr W w).trans ((alloc_fr _).mono fun k hk h => h.elim)⟩
                    · rw [upd_self]; right; simp only [NE.val]; omega
                    · rw [upd_self]; rfl
                  · cases h
                · cases h
              · -- a row
                rename_i b n1
                split at h
                · cases h
                · rename_i B hB
                  split at h
                  · rename_i hrw hes hne
                    split at h
                    · rename_i cs p4 p2 p3 hcat hp4 hp2 hp3
                      cases h
                      obtain ⟨q1, q⟩ := hp.app
                      obtain ⟨q4, q⟩ := q.app
                      obtain ⟨q2, q3⟩ := q.app
                      obtain ⟨news, k1, k2, k3⟩ := seg_cells hH (Heap.blk_some hB2) hseg q1
                      have l4 := eqN_ok hp4 q4
                      have l2 := leN_ok hp2 q2
                      have l3 := leN_ok hp3 q3
                      rw [NE.mulK_val] at l4 l2 k1
                      rw [NE.add_val] at l2 l3
                      have hes := beqN_eq hes
                      have hB := Heap.blk_some hB
                      obtain ⟨c, ce, lo, hi', hg, hc, hw, hLes, hcp⟩ := (hH.blk b B hB).out
                      obtain ⟨hbase, hcapc⟩ := hcp (by rw [hes]; omega)
                      obtain ⟨hWb, hlh⟩ := hw hrw
                      obtain ⟨hb1, cap, ad, f1, f2, f3, rfl⟩ := hs
                      have hLe : (μ b).es = m + 1 := by rw [hLes, hes]
                      have hcapm : cap * (m + 1) ≤ (μ b).cap := by
                        rcases f2 with f2 | f2
                        · rw [hLe] at f2; omega
                        · rw [hLe] at f2; simp only [NE.val] at f2; omega
                      -- the old cells
                      have hold : ∀ j, j < n1.val * (m + 1) → ∃ x v, B.cells.at j = some x ∧ c[j]? = some v ∧ relC μ H.length x v := fun j hj => by
                        obtain ⟨x, hx⟩ := len_at (c := B.cells) (j := j) (by rw [l4]; exact hj)
                        obtain ⟨v, hv, r⟩ := hc j x hx
                        rw [hbase, Nat.zero_add] at hv
                        exact ⟨x, v, hx, hv, r⟩
                      have had2 : n2.val = 0 ∨ ad2 = addrOf (μ b2) o2.val := by
                        rcases g3 with g3 | g3
                        · left; omega
                        · exact .inr g3
                      have hk2 : ∀ j u, news[j]? = some u → w.cell? (ad2.add j) = some u := fun j u hu' => by
                        rcases had2 with h0 | rfl
                        · have := lt_of_get hu'; rw [k1, h0] at this; omega
                        · exact k2 j u hu'
                      have hlen : news.length = n2.val * i.size := by rw [k1, him]
                      have hscal : ∀ v ∈ news, (∀ cs, v ≠ .agg cs) ∧ ∀ cs, v ≠ .tuple cs := fun v hv => by
                        obtain ⟨j, hj, rfl⟩ := List.getElem_of_mem hv
                        obtain ⟨r1, r2, r3⟩ := seg_at hseg q1
                        obtain ⟨x, hx⟩ := r3 j (by rw [NE.mulK_val, ← k1]; exact hj)
                        obtain ⟨v', hv', r⟩ := k3 j x hx
                        rw [List.getElem?_eq_getElem hj] at hv'
                        cases hv'
                        exact r.scalar
                      -- the new row, whatever its block
                      have hcells : ∀ (cur : Array Value), (∀ j, j < n1.val * (m + 1) → cur[j]? = c[j]?) → (∀ j, j < news.length → cur[n1.val * (m + 1) + j]? = news[j]?) → ∀ (ν : Nat → Loc), agree H.length μ ν → ∀ j x, cs.at j = some x → ∃ v, cur[j]? = some v ∧ relC ν (H.length + 1) x v := by
                        intro cur e1 e2 ν ha j x hx
                        obtain ⟨u, hu', r⟩ := cat_ok hcat j x hx
                        unfold catAt at hu'
                        rw [l4] at hu'
                        split at hu'
                        · rename_i hj
                          obtain ⟨x', v, hx', hv, r'⟩ := hold j hj
                          rw [hu'] at hx'; cases hx'
                          exact ⟨v, by rw [e1 j hj]; exact hv, (r _ _ _ r').mono ha (by omega)⟩
                        · rename_i hj
                          obtain ⟨v, hv, r'⟩ := k3 _ u hu'
                          refine ⟨v, ?_, (r _ _ _ r').mono ha (by omega)⟩
                          have := e2 (j - n1.val * (m + 1)) (lt_of_get hv)
                          rw [← hv, ← this]; congr 1; omega
                      by_cases hroom : n1.val + n2.val ≤ cap
                      · -- there is room
                        have hf := run_firstCells_some (P := P) w i.size n2.val ad2 n2.val cap2 news hlen hk2
                        have hadd : cap = 0 ∨ ad.add (n1.val * i.size) = ⟨(μ b).blk, n1.val * (m + 1), none⟩ := by
                          rcases f3 with f3 | f3
                          · exact .inl f3
                          · right; rw [f3, addr_add, him]; simp [addrOf, hbase, NE.val]
                        have hfit : n1.val * (m + 1) + 0 + news.length ≤ c.size := by
                          rw [hlen, him]
                          have : (n1.val + n2.val) * (m + 1) ≤ cap * (m + 1) := Nat.mul_le_mul_right _ hroom
                          rw [Nat.add_mul] at this; omega
                        have hst : ∃ w' cur', (storeCells (ad.add (n1.val * i.size)) news).run P w = .ok () w' ∧ w'.heap[(μ b).blk]? = some (.cells cur' ce (lo, hi')) ∧ cur'.size = c.size ∧ (∀ j, j < n1.val * (m + 1) → cur'[j]? = c[j]?) ∧ (∀ j, j < news.length → cur'[n1.val * (m + 1) + j]? = news[j]?) ∧ Fr (fun k => k = (μ b).blk) w w' := by
                          rcases hadd with h0 | hadd
                          · have : news = [] := by
                              have : n2.val = 0 := by omega
                              rw [this] at hlen; simp at hlen; exact hlen
                            subst this
                            exact ⟨w, c, rfl, hg, rfl, fun _ _ => rfl, fun j hj => by simp at hj, Fr.refl _ _⟩
                          · rw [hadd]
                            obtain ⟨w', cur', r1, r2, r3, r4, r5, r6⟩ := raw_store (P := P) (g := (μ b).blk) (o := n1.val * (m + 1)) (fz := (lo, hi')) hlh news 0 c w hg hfit hscal
                            exact ⟨w', cur', r1, r2, r3, fun j hj => r4 j (by omega), fun j hj => by have := r5 j hj; rwa [Nat.add_zero] at this, r6⟩
                        obtain ⟨w', cur', r1, r2, r3, r4, r5, r6⟩ := hst
                        have hrun : (Builtin.append_ #[t, t] ty #[.slice (some ad) n1.val cap, .slice (some ad2) n2.val cap2]).run P w = .ok (.slice (some ad) (n1.val + n2.val) cap) w' := by
                          simp [Builtin.append_, run_underlying hu, sizeOf, typeInfo, hi, Builtin.lenOf, hroom, hf, r1]
                        refine ⟨_, _, hrun, ?_⟩
                        have hg' := HRel.regrow (D := ⟨true, m + 1, cs⟩) hH hB hrw r6 r2 hlh hWb (cap := (μ b).cap) (by rw [r3]; exact hcapc) (hcells cur' r4 r5)
                        refine ⟨_, agree_upd _ _ _, by simp, hg', ⟨by simp, cap, ad, by rw [NE.add_val]; exact hroom, ?_, ?_, by rw [NE.add_val]⟩, r6.mono fun k hk h => h ▸ hWb⟩
                        · rw [upd_self]; right; simp only [NE.val]; omega
                        · rcases f3 with f3 | f3
                          · exact .inl f3
                          · right; rw [upd_self, f3]; simp [addrOf, hbase, NE.val]
                      · -- a new block
                        have hg' : cap < n1.val + n2.val := by omega
                        let olds : List Value := (List.range (n1.val * (m + 1))).map fun j => (c[j]?).getD undef
                        have holds' : ∀ j v, olds[j]? = some v → w.cell? (ad.add j) = some v := fun j v hv => by
                          have hj : j < n1.val * (m + 1) := by have := lt_of_get hv; simpa [olds] using this
                          obtain ⟨x', u, _, hu', _⟩ := hold j hj
                          have hadz : ad = addrOf (μ b) 0 := by
                            rcases f3 with f3 | f3
                            · rw [f3] at f1
                              have : n1.val = 0 := by omega
                              rw [this] at hj; omega
                            · exact f3
                          rw [hadz, addr_add, cell_addr hg, hbase]
                          simp [olds, hj, hu'] at hv
                          rw [show (0 + (0 + j)) = j by omega, hu', hv]
                        have hlo : olds.length = n1.val * i.size := by simp [olds, him]
                        have hfitc := growslice_fits (need := n1.val + n2.val) (old := cap) (bytes := i.bytes) hg' (by rw [hbt]; exact l2)
                        have hrun := run_append_grow (P := P) w t ty e i z0 hu hi hzz ad n1.val cap olds hlo holds' ad2 n2.val cap2 news hlen hk2 hg' (by omega) hfitc
                        refine ⟨_, _, hrun, ?_⟩
                        have hge := grownCap_ge w (n1.val + n2.val) cap e
                        have hzs : z0.cells.size = m + 1 := by
                          have h1 := (hzr μ H.length).len
                          rw [(tt_ok htt hte).zlen, hm] at h1; simpa using h1.symm
                        have hlenH : (H.set b none).length = H.length := List.length_set
                        have hpush := HRel.push (hH.drop b).drew (B := ⟨true, m + 1, cs⟩) (cells := olds.toArray ++ news.toArray ++ Builtin.zeroCells z0.cells (grownCap w (n1.val + n2.val) cap e - (n1.val + n2.val))) (e := e) (hW _ (Nat.le_refl _)) (fun ν ha j x hx => by
                          rw [hlenH] at ha ⊢
                          have hol : olds.length = n1.val * (m + 1) := by rw [hlo, him]
                          refine hcells _ (fun j hj => ?_) (fun j hj => ?_) ν ha j x hx
                          · obtain ⟨x', u, _, hu', _⟩ := hold j hj
                            rw [Array.append_assoc, Array.getElem?_append_left (by simp [hol, hj])]
                            simp [olds, hj, hu']
                          · rw [Array.append_assoc, Array.getElem?_append_right (by simp [hol])]
                            simp only [List.size_toArray, hol, Nat.add_sub_cancel_left]
                            rw [Array.getElem?_append_left (by simpa using hj)]
                            simp) (grownCap w (n1.val + n2.val) cap e * (m + 1)) (by
                            rw [Array.size_append, Array.size_append, size_zeroCells, hzs]
                            simp only [List.size_toArray]
                            rw [hlen, hlo, him, ← Nat.add_mul, ← Nat.add_mul]
                            exact Nat.mul_le_mul_right _ (by omega))
                        rw [hlenH] at hpush
                        refine ⟨_, agree_upd _ _ _, by simp, hpush, ⟨by simp, grownCap w (n1.val + n2.val) cap e, _, by rw [NE.add_val]; exact hge, ?_, .inr rfl, ?_⟩, (drew_fr W w).trans ((alloc_fr _).mono fun k hk h => h.elim)⟩
                        · rw [upd_self]; right; simp only [NE.val]; omega
                        · rw [upd_self, NE.add_val]; rfl
                    · cases h
                  · cases h
              · cases h
        · cases h
    · cases h
end Go.Proofs.YteifneielgnniaaGreatDoor.Sh
namespace Go.Proofs.YteifneielgnniaaGreatDoor.Sh
open Go Ieee
theorem capBlks_ok : ∀ {xs : List V} {bs : List Nat}, capBlks xs = some bs → ∀ {μ : Nat → Loc} {N : Nat} {vs : List Value}, relL (relV μ N) xs vs → (∀ b ∈ bs, b < N) ∧ vs = bs.map fun b => Value.pointer (some (addrOf (μ b) 0))
  | [], bs, h, μ, N, vs, hr => by
    simp only [capBlks, Option.some.injEq] at h
    subst h
    cases vs with
    | nil => exact ⟨fun b hb => by simp at hb, rfl⟩
    | cons _ _ => exact hr.elim
  | x :: xs, bs, h, μ, N, vs, hr => by
    cases vs with
    | nil => exact hr.elim
    | cons v vs =>
      unfold capBlks at h
      split at h
      · cases ‹_ :: _ = []›
      · rename_i b r heq
        cases heq
        split at h
        · rename_i q hq
          cases h
          obtain ⟨h1, h2⟩ := capBlks_ok hq hr.2
          obtain ⟨hb, rfl⟩ := hr.1
          exact ⟨fun c hc => by rcases List.mem_cons.1 hc with rfl | hc; exact hb; exact h1 c hc, by rw [h2]; rfl⟩
        · cases h
      · cases h
theorem map_rel {μ : Nat → Loc} {N : Nat} {A : List V} {a : Act} (hA : relA μ N A a.tmps) : ∀ l : List Operand, relL (relV μ N) (l.map (av A)) (l.map a.eval)
  | [] => trivial
  | x :: l => ⟨av_rel hA x, map_rel hA l⟩
theorem part_rel {μ : Nat → Loc} {N : Nat} {A : List V} {a : Act} (hA : relA μ N A a.tmps) : ∀ l : List (Nat × Operand), relL (partOk μ N) (l.map fun q => (q.1, av A q.2)) (l.map fun q => (q.1, a.eval q.2))
  | [] => trivial
  | x :: l => ⟨⟨rfl, av_rel hA x.2⟩, part_rel hA l⟩
/-- AN OPERATION THAT MAY WRITE -/
theorem aopW_ok {P : Program} {tt : TT} {E : Env} (htt : TtOk P tt) (hE : EnvOk P E) {o : Oper} {A : List V} {H H' : Heap} {v : V} {p : Obl} (h : aopW tt E o A H = some (v, H', p)) (hp : holds p)
    {μ : Nat → Loc} {W : Nat → Prop} {w : World} {a : Act} (hW : Wide W w) (hA : relA μ H.length A a.tmps) (hH : HRel μ W H w) :
    Yld P o a w (Aft μ W H.length w v H') := by
  obtain ⟨dst, op, ty, pos, after, gd⟩ := o
  unfold aopW at h
  cases op <;> simp only at h <;> first | (cases h; done) | skip
  case alloc t =>
    split at h
    · rename_i ti ht
      cases h
      obtain ⟨i, hi, hs, hb, z, hz, hzr, hag⟩ := (tt_ok htt ht).info
      refine Yld.of_value (s := Instr.alloc t true (.tuple #[])) rfl ?_ (anew_ok hW.new hH (hzr μ H.length) t)
      simp [Instr.alloc, zeroValue, typeInfo, hi, hz, run_newVar]
    · cases h
  case box t x =>
    split at h
    · rename_i cs hcs
      cases h
      have hr := V.cells_rel hcs (av_rel hA x)
      refine Yld.of_value (s := Instr.box t (a.eval x)) rfl ?_ (anew_ok hW.new hH hr t)
      simp [Instr.box, run_newVar]
    · cases h
  case buildSlice t len ps =>
    split at h
    · rename_i v' H'' hb
      cases h
      obtain ⟨x, w', h1, h2⟩ := abuildSlice_ok (P := P) htt hW.new hH hb (qs := ps.map fun (i, x) => (i, a.eval x)) (by rw [Array.toList_map]; exact part_rel hA _)
      exact Yld.of_value rfl h1 h2
    · cases h
  case store t x y =>
    split at h
    · rename_i ti b off ht hx
      split at h
      · rename_i H'' q hs
        cases h
        have hr := av_rel hA x
        rw [hx] at hr
        obtain ⟨hb, he⟩ := hr
        obtain ⟨w', h1, h2, h3, h4⟩ := astore_ok (P := P) (tt_ok htt ht) hH hs hp (av_rel hA y)
        refine .inr (.inl ⟨w', ?_, μ, agree.refl _ _, by omega, h2, rfl, h3⟩)
        simp only [execOp, Sem.run_bind, Instr.storeAt, he, Instr.sureAddr, Sem.run_pure, Result.andThen_ok, h1]
      · cases h
    · cases h
  case makeSlice t l c =>
    obtain ⟨z, w', h1, h2⟩ := amakeSlice_ok (P := P) htt hW.new hH h hp (av_rel hA l) (av_rel hA c)
    exact Yld.of_value rfl h1 h2
  case makeFunc fn first caps =>
    cases fn <;> simp only at h <;> first | (cases h; done) | skip
    rename_i g
    split at h
    · rename_i bs hf hc
      cases h
      obtain ⟨h1, h2⟩ := capBlks_ok hc (map_rel hA _)
      refine .inl ⟨_, w, rfl, μ, agree.refl _ _, Nat.le_refl _, hH, ⟨h1, ?_⟩, Fr.refl _ _⟩
      have e1 : first.map a.eval = #[] := by rw [← Array.toList_inj]; simp [hf]
      have e2 : caps.map a.eval = (bs.map fun b => Value.pointer (some (addrOf (μ b) 0))).toArray := by rw [← Array.toList_inj]; simpa using h2
      rw [e1, e2]
    · cases h
  case call c =>
    split at h
    · rename_i hc
      split at h
      · rename_i s x t t' hx ht
        split at h
        · rename_i hb
          have hb := beqN_eq hb
          subst hb
          obtain ⟨z, w', h1, h2⟩ := aappend_ok (P := P) htt hW.new hH h hp (av_rel hA s) (av_rel hA x) ty
          refine .inl ⟨z, w', ?_, h2⟩
          have e1 : c.args.map a.eval = #[a.eval s, a.eval x] := by
            rw [← Array.toList_inj]; simp [hx]
          have e2 : c.argTypes = #[t, t] := by rw [← Array.toList_inj]; simp [ht]
          simp only [execOp, resolve, hc, pure_bind, invoke, builtin, e1, e2, Sem.run_bind, h1, Result.andThen_ok, Sem.run_pure]
        · cases h
      · cases h
    · rename_i f hc
      split at h
      · rename_i g args hcal
        split at h
        · rename_i s hs
          obtain ⟨vs, r1, r2⟩ := callee_ok hcal hA ty
          have hex : (execOp a.eval ⟨dst, .call c, ty, pos, after, gd⟩) = callFunc g vs.toArray := r2
          rcases acall_ok (hE g s hs).1 h hp hW hH r1 with ⟨k1, k2⟩ | ⟨z, w', k1, k2⟩
          · exact .inr (.inr ⟨g, vs.toArray, by rw [hex]; exact k1, k2.mono fun e w' ⟨z, he, hz, _⟩ => ⟨z, he, hz⟩⟩)
          · exact .inl ⟨z, w', by rw [hex]; exact k1, k2.1⟩
        · cases h
      · cases h
    · cases h
theorem aop_ok {P : Program} {tt : TT} {E : Env} (htt : TtOk P tt) (hE : EnvOk P E) {o : Oper} {A : List V} {H H' : Heap} {v : V} {p : Obl} (h : aop tt E o A H = some (v, H', p)) (hp : holds p)
    {μ : Nat → Loc} {W : Nat → Prop} {w : World} {a : Act} (hW : Wide W w) (hA : relA μ H.length A a.tmps) (hH : HRel μ W H w) :
    Yld P o a w (Aft μ W H.length w v H') := by
  unfold aop at h
  split at h
  · rename_i v' p' hq
    cases h
    exact (aopQ_ok htt hE hq hp hW hA hH).mono fun x w' ⟨r, f⟩ => ⟨μ, agree.refl _ _, Nat.le_refl _, hH.quiet f, r, f.mono fun k hk h => h.elim⟩
  · exact aopW_ok htt hE h hp hW hA hH
/-! ## regions -/
theorem putA_rel {μ : Nat → Loc} {N : Nat} {A : List V} {a : Act} (hA : relA μ N A a.tmps) {v : V} {x : Value} (hv : relV μ N v x) (dst : Option Nat) : relA μ N (putA A dst v) (a.put dst x).tmps := by
  cases dst with
  | none => exact hA
  | some d =>
    show relL (relV μ N) (A.set d v) (a.tmps.setIfInBounds d x).toList
    rw [Array.toList_setIfInBounds]
    exact hA.set d hv
/-- a slot whose Bool is known may be written out -/
theorem setB_rel {μ : Nat → Loc} {N : Nat} {A : List V} {tmps : Array Value} (hA : relA μ N A tmps) {d : Nat} {t : Unit → Bool} (hd : A[d]? = some (.c (.b (.x t)))) {b : Bool} (ht : t () = b) : relA μ N (A.set d (.c (.b (.l b)))) tmps := by
  have key : ∀ {A : List V} {vs : List Value} {d : Nat}, relL (relV μ N) A vs → A[d]? = some (.c (.b (.x t))) → relL (relV μ N) (A.set d (.c (.b (.l b)))) vs := by
    intro A
    induction A with
    | nil => intro vs d _ hd; simp at hd
    | cons x A ih =>
      intro vs d h hd
      cases vs with
      | nil => exact h.elim
      | cons v vs =>
        cases d with
        | zero =>
          simp at hd
          subst hd
          refine ⟨?_, h.2⟩
          have : v = .bool (t ()) := h.1
          rw [ht] at this
          exact this
        | succ d => exact ⟨h.1, ih h.2 (by simpa using hd)⟩
  exact key hA hd
end Go.Proofs.YteifneielgnniaaGreatDoor.Sh
namespace Go.Proofs.YteifneielgnniaaGreatDoor.Sh
open Go Ieee
/-! ## regions -/
theorem guard_slot {ops : List Oper} {o oj : Oper} {j d : Nat} {want : Bool} {a : Act} {x : Value} (hg : o.guard = some (j, want)) (hj : ops[j]? = some oj) (hd : oj.dst = some d) (hx : a.tmps.toList[d]? = some x) :
    Region.wanted o (yielded ops.toArray a.tmps) = ((match x with | .bool b => some b | _ => none) == some want) := by
  unfold Region.wanted
  rw [hg]
  have h1 : a.tmps[d]? = some x := by simpa using hx
  have h2 : (ops.toArray)[j]? = some oj := by simpa using hj
  simp only [yielded, h2, Option.bind_some, hd, h1]
  cases x <;> rfl
theorem relA_slot {μ : Nat → Loc} {N : Nat} {A : List V} {a : Act} (hA : relA μ N A a.tmps) {d : Nat} {v : V} (h : A[d]? = some v) : ∃ x, a.tmps.toList[d]? = some x ∧ relV μ N v x := relL.get hA h
/-- what a guard says -/
def GOk (ops : List Oper) (o : Oper) (A : List V) (a : Act) : G → Prop
  | .yes => Region.wanted o (yielded ops.toArray a.tmps) = true
  | .no => Region.wanted o (yielded ops.toArray a.tmps) = false
  | .ask d t want => A[d]? = some (.c (.b (.x t))) ∧ Region.wanted o (yielded ops.toArray a.tmps) = (t () == want)
  | .bad => True
theorem guard_ok {μ : Nat → Loc} {N : Nat} {ops : List Oper} {o : Oper} {A : List V} {a : Act} (hA : relA μ N A a.tmps) : GOk ops o A a (guardA ops o A) := by
  unfold guardA
  split
  · rename_i hg
    simp [GOk, Region.wanted, hg]
  · rename_i j want hg
    split
    · trivial
    · rename_i oj hj
      split
      · trivial
      · rename_i d hd
        split
        · rename_i t ht
          obtain ⟨x, hx, hr⟩ := relA_slot hA ht
          have hr : x = .bool t := hr
          subst hr
          have := guard_slot hg hj hd hx
          simp only [Option.some_beq_some] at this
          split <;> rename_i hb <;> simp only [GOk, this, hb]
        · rename_i t ht
          obtain ⟨x, hx, hr⟩ := relA_slot hA ht
          have hr : x = .bool (t ()) := hr
          subst hr
          have := guard_slot hg hj hd hx
          exact ⟨ht, by simpa using this⟩
        · rename_i ht
          obtain ⟨x, hx, hr⟩ := relA_slot hA ht
          have hr : x = undef := hr
          subst hr
          exact guard_slot hg hj hd hx
        · trivial
theorem set_self {α : Type} {l : List α} {i : Nat} {a : α} (h : l[i]? = some a) : l.set i a = l := by
  refine List.ext_getElem? fun j => ?_
  by_cases hij : i = j
  · subst hij; rw [List.getElem?_set_self (lt_of_get h), h]
  · rw [List.getElem?_set_ne hij]
/-- the state of a walk -/
structure St (μ₀ : Nat → Loc) (n0 : Nat) (W : Nat → Prop) (w₀ : World) (A : List V) (H : Heap) (a : Act) (w : World) : Prop where
  out : ∃ μ, agree n0 μ₀ μ ∧ n0 ≤ H.length ∧ relA μ H.length A a.tmps ∧ a.defers = [] ∧ HRel μ W H w ∧ Fr W w₀ w ∧ Wide W w₀
def PostOk (μ₀ : Nat → Loc) (n0 : Nat) (W : Nat → Prop) (w₀ : World) (Q : Post) (R : Exit → Act → World → Prop) : Prop :=
  ∀ e A H a w, Q e A H → St μ₀ n0 W w₀ A H a w → R (match e with | .nrm => .normal | .exit i => .exit i | .ret => .ret) a w
theorem put_defers (a : Act) (dst : Option Nat) (v : Value) : (a.put dst v).defers = a.defers := by
  cases dst <;> rfl
section
variable {P : Program} {tt : TT} {E : Env} (htt : TtOk P tt) (hE : EnvOk P E) {μ₀ : Nat → Loc} {n0 : Nat} {W : Nat → Prop} {w₀ : World}
include htt hE
theorem step_ok {o : Oper} {A : List V} {H : Heap} {K : List V → Heap → Prop} (h : stepA tt E o A H K) {a : Act} {w : World} (hs : St μ₀ n0 W w₀ A H a w) {R : Exit → Act → World → Prop} {K' : Act → World → Prop}
    (k : ∀ A' H' a' w', K A' H' → St μ₀ n0 W w₀ A' H' a' w' → K' a' w') : o.wp P a w K' R := by
  unfold stepA at h
  split at h
  · rename_i v H' p hop
    obtain ⟨hp, hk⟩ := obs_iff h
    obtain ⟨μ, h1, h2, h3, h4, h5, h6, h7⟩ := hs.out
    have hW : Wide W w := h7.step h6
    refine (aop_ok htt hE hop hp hW h3 h5).wp fun x w' ⟨ν, g1, g2, g3, g4, g5⟩ => ?_
    refine k _ _ _ _ hk ⟨ν, h1.trans (g1.mono h2), by omega, putA_rel (h3.mono g1 g2) g4 _, by rw [put_defers]; exact h4, g3, h6.trans g5, h7⟩
  · obtain ⟨μ, h1, h2, h3, h4, h5, h6, h7⟩ := hs.out
    have hW : Wide W w := h7.step h6
    have cons : ∀ {q : Unit → Prop} {p : Obl}, q () → holds p → holds (q :: p) := fun hq hp r hr => by
      rcases List.mem_cons.1 hr with rfl | hr
      · exact hq
      · exact hp r hr
    split at h
    · rename_i v1 H1 q1 p1 v2 H2 q2 p2 e1 e2
      obtain ⟨hq, hx, hy⟩ := h
      rcases hq with hq | hq
      · obtain ⟨hp, hk⟩ := obs_iff (hx hq)
        refine (aopW_ok htt (envT_ok hE) e1 (cons hq hp) hW h3 h5).wp fun x w' ⟨ν, g1, g2, g3, g4, g5⟩ => ?_
        refine k _ _ _ _ hk ⟨ν, h1.trans (g1.mono h2), by omega, putA_rel (h3.mono g1 g2) g4 _, by rw [put_defers]; exact h4, g3, h6.trans g5, h7⟩
      · obtain ⟨hp, hk⟩ := obs_iff (hy hq)
        refine (aopW_ok htt (envF_ok hE) e2 (cons hq hp) hW h3 h5).wp fun x w' ⟨ν, g1, g2, g3, g4, g5⟩ => ?_
        refine k _ _ _ _ hk ⟨ν, h1.trans (g1.mono h2), by omega, putA_rel (h3.mono g1 g2) g4 _, by rw [put_defers]; exact h4, g3, h6.trans g5, h7⟩
    · cases h
theorem aops_ok {id : List Oper} : ∀ {l : List Oper} {A : List V} {H : Heap} {K : List V → Heap → Prop}, aops tt E id l A H K → ∀ {a : Act} {w : World}, St μ₀ n0 W w₀ A H a w → ∀ {R : Exit → Act → World → Prop},
    (∀ A' H' a' w', K A' H' → St μ₀ n0 W w₀ A' H' a' w' → R .normal a' w') → wpList P id.toArray R l a w
  | [], A, H, K, h, a, w, hs, R, k => k _ _ _ _ h hs
  | o :: r, A, H, K, h, a, w, hs, R, k => by
    unfold aops at h
    obtain ⟨μ, h1, h2, h3, h4, h5, h6, h7⟩ := hs.out
    have hg := guard_ok (ops := id) (o := o) h3
    have skip : ∀ {A' : List V}, relA μ H.length A' a.tmps → aops tt E id r (putA A' o.dst .n) H K → Region.wanted o (yielded id.toArray a.tmps) = false → wpList P id.toArray R (o :: r) a w := fun hA' hk hw => by
      refine wpList_step fun K' hK' => ?_
      rw [hw]
      refine hK' _ _ (aops_ok hk ⟨μ, h1, h2, putA_rel (v := V.n) (x := undef) hA' rfl _, by rw [put_defers]; exact h4, h5, h6, h7⟩ k)
    have go : ∀ {A' : List V}, relA μ H.length A' a.tmps → stepA tt E o A' H (fun A' H' => aops tt E id r A' H' K) → Region.wanted o (yielded id.toArray a.tmps) = true → wpList P id.toArray R (o :: r) a w := fun hA' hk hw => by
      refine wpList_step fun K' hK' => ?_
      rw [hw]
      exact step_ok htt hE hk (a := a) (w := w) ⟨μ, h1, h2, hA', h4, h5, h6, h7⟩ fun A' H' a' w' hk' hs' => hK' _ _ (aops_ok hk' hs' k)
    split at h
    · rename_i hg'; rw [hg'] at hg; exact go h3 h hg
    · rename_i hg'; rw [hg'] at hg; exact skip h3 h hg
    · rename_i d t want hg'
      rw [hg'] at hg
      obtain ⟨hd, hw⟩ := hg
      obtain ⟨hT, hF⟩ := h
      cases ht : t () with
      | true =>
        have h := hT ht
        rw [ht] at hw
        cases want with
        | true => exact go (setB_rel h3 hd ht) h hw
        | false => exact skip (setB_rel h3 hd ht) h hw
      | false =>
        have h := hF ht
        rw [ht] at hw
        cases want with
        | false => exact go (setB_rel h3 hd ht) h hw
        | true => exact skip (setB_rel h3 hd ht) h hw
    · cases h
end
theorem allP_mem {f : Nat → Prop} : ∀ {l : List Nat}, allP f l → ∀ i ∈ l, f i
  | [], _, i, hi => by cases hi
  | [x], h, i, hi => by
    have : i = x := by simpa using hi
    rw [this]; exact h
  | x :: y :: l, h, i, hi => by
    obtain ⟨h1, h2⟩ := h
    rcases List.mem_cons.1 hi with rfl | hi
    · exact h1
    · exact allP_mem (l := y :: l) h2 i hi
section
variable {P : Program} {tt : TT} {E : Env} (htt : TtOk P tt) (hE : EnvOk P E) {μ₀ : Nat → Loc} {n0 : Nat} {W : Nat → Prop} {w₀ : World}
include htt hE
theorem gstep_ok {id : List Oper} {o : Oper} {A : List V} {H : Heap} {K : List V → Heap → Prop} (h : gstep tt E id o A H K) {a : Act} {w : World} (hs : St μ₀ n0 W w₀ A H a w) {R : Exit → Act → World → Prop} {K' : Act → World → Prop}
    (k : ∀ A' H' a' w', K A' H' → St μ₀ n0 W w₀ A' H' a' w' → K' a' w') : if Region.wanted o (yielded id.toArray a.tmps) then o.wp P a w K' R else K' (a.put o.dst undef) w := by
  unfold gstep at h
  obtain ⟨μ, h1, h2, h3, h4, h5, h6, h7⟩ := hs.out
  have hg := guard_ok (ops := id) (o := o) h3
  have skip : ∀ {A' : List V}, relA μ H.length A' a.tmps → K (putA A' o.dst .n) H → Region.wanted o (yielded id.toArray a.tmps) = false → if Region.wanted o (yielded id.toArray a.tmps) then o.wp P a w K' R else K' (a.put o.dst undef) w := fun hA' hk hw => by
    rw [hw]
    exact k _ _ _ _ hk ⟨μ, h1, h2, putA_rel (v := V.n) (x := undef) hA' rfl _, by rw [put_defers]; exact h4, h5, h6, h7⟩
  have go : ∀ {A' : List V}, relA μ H.length A' a.tmps → stepA tt E o A' H K → Region.wanted o (yielded id.toArray a.tmps) = true → if Region.wanted o (yielded id.toArray a.tmps) then o.wp P a w K' R else K' (a.put o.dst undef) w := fun hA' hk hw => by
    rw [hw]
    exact step_ok htt hE hk (a := a) (w := w) ⟨μ, h1, h2, hA', h4, h5, h6, h7⟩ k
  split at h
  · rename_i hg'; rw [hg'] at hg; exact go h3 h hg
  · rename_i hg'; rw [hg'] at hg; exact skip h3 h hg
  · rename_i d t want hg'
    rw [hg'] at hg
    obtain ⟨hd, hw⟩ := hg
    obtain ⟨hT, hF⟩ := h
    cases ht : t () with
    | true =>
      have h := hT ht
      rw [ht] at hw
      cases want with
      | true => exact go (setB_rel h3 hd ht) h hw
      | false => exact skip (setB_rel h3 hd ht) h hw
    | false =>
      have h := hF ht
      rw [ht] at hw
      cases want with
      | false => exact go (setB_rel h3 hd ht) h hw
      | true => exact skip (setB_rel h3 hd ht) h hw
  · cases h
theorem ordA_ok {ops : Array Oper} {R : Exit → Act → World → Prop} : ∀ {f : Nat} {listed : Array Bool} {A : List V} {H : Heap} {K : List V → Heap → Prop}, ordA tt E ops f listed A H K → ∀ {a : Act} {w : World}, St μ₀ n0 W w₀ A H a w →
    (∀ A' H' a' w', K A' H' → St μ₀ n0 W w₀ A' H' a' w' → R .normal a' w') → wpAny P .any ops R f listed a w
  | 0, listed, A, H, K, h, a, w, hs, k => by
    unfold ordA at h
    split at h
    · rename_i hr; exact ⟨hr, k _ _ _ _ h hs⟩
    · exact h.elim
  | f + 1, listed, A, H, K, h, a, w, hs, k => by
    unfold ordA at h
    split at h
    · rename_i hr
      refine ⟨fun _ => k _ _ _ _ h hs, fun i hi => ?_⟩
      rw [hr] at hi; cases hi
    · rename_i x l hr
      refine ⟨fun h0 => (by rw [hr] at h0; cases h0), fun i hi => ?_⟩
      rw [hr] at hi
      have hi' := allP_mem h i hi
      unfold wpOp
      split at hi'
      · cases hi'
      · rename_i o ho
        simp only [ho]
        have := gstep_ok htt hE (R := R) (K' := wpAny P .any ops R f (listed.setIfInBounds i true)) hi' hs fun A' H' a' w' hk hs' => ordA_ok hk hs' k
        simp only [Array.toArray_toList] at this
        split
        · rename_i hw; rw [if_pos hw] at this; exact .inl this
        · rename_i hw; rw [if_neg hw] at this; exact this
end
/-! ### a region whose order is drawn -/
section
variable {P : Program} {ops : Array Oper} {C : World → Prop}
/-- in every frame of M and every world of C the operation leaves a value of S, and a world of C -/
def YieldsS (P : Program) (ops : Array Oper) (C : World → Prop) (o : Oper) (S : Value → Prop) (M : Act → Prop) : Prop :=
  ∀ a, M a → ∀ w, C w → (Region.wanted o (yielded ops a.tmps) = true → Yld P o a w fun x w' => S x ∧ C w') ∧ (Region.wanted o (yielded ops a.tmps) = false → S undef)
def putM (M : Act → Prop) (dst : Option Tmp) (S : Value → Prop) : Act → Prop := fun a' => ∃ a v, M a ∧ S v ∧ a' = a.put dst v
def sOp (P : Program) (ops : Array Oper) (C : World → Prop) (i : Nat) (K : (Act → Prop) → Prop) (M : Act → Prop) : Prop :=
  match ops[i]? with
  | none => K M
  | some o => ∃ S, YieldsS P ops C o S M ∧ K (putM M o.dst S)
def wpAnyM (P : Program) (ops : Array Oper) (C : World → Prop) (Q : Act → Prop) : Nat → Array Bool → (Act → Prop) → Prop
  | 0, listed, M => Region.ready .any ops listed = [] ∧ ∀ a, M a → Q a
  | fuel + 1, listed, M =>
    (Region.ready .any ops listed = [] → ∀ a, M a → Q a) ∧
    ∀ i ∈ Region.ready .any ops listed, sOp P ops C i (wpAnyM P ops C Q fuel (listed.setIfInBounds i true)) M
def wpLexM (P : Program) (ops : Array Oper) (C : World → Prop) (Q : Act → Prop) : List Oper → (Act → Prop) → Prop
  | [], M => ∀ a, M a → Q a
  | o :: rest, M => ∃ S, YieldsS P ops C o S M ∧ wpLexM P ops C Q rest (putM M o.dst S)
theorem YieldsS.anti {o : Oper} {S : Value → Prop} {M M' : Act → Prop} (h : YieldsS P ops C o S M) (k : ∀ a, M' a → M a) : YieldsS P ops C o S M' := fun a ha => h a (k a ha)
theorem wpLexM_anti {Q : Act → Prop} : ∀ {l : List Oper} {M M' : Act → Prop}, wpLexM P ops C Q l M → (∀ a, M' a → M a) → wpLexM P ops C Q l M'
  | [], _, _, h, k => fun a ha => h a (k a ha)
  | _ :: _, _, _, ⟨S, h1, h2⟩, k => ⟨S, h1.anti k, wpLexM_anti h2 fun _ ⟨a, v, ha, hv, e⟩ => ⟨a, v, k a ha, hv, e⟩⟩
theorem sOp_mono {i : Nat} {M : Act → Prop} {K K' : (Act → Prop) → Prop} (h : ∀ M, K M → K' M) (hh : sOp P ops C i K M) : sOp P ops C i K' M := by
  unfold sOp at *
  split
  · exact h _ (by simpa [*] using hh)
  · rename_i o ho
    simp only [ho] at hh
    obtain ⟨S, h1, h2⟩ := hh
    exact ⟨S, h1, h _ h2⟩
theorem wpAny_of_M {Q : Act → Prop} {Q' : Exit → Act → World → Prop} (hQ : ∀ a w, C w → Q a → Q' .normal a w) : ∀ (fuel : Nat) (listed : Array Bool) (M : Act → Prop) (a : Act) (w : World), M a → C w →
    wpAnyM P ops C Q fuel listed M → wpAny P .any ops Q' fuel listed a w
  | 0, _, _, _, _, ha, hw, h => ⟨h.1, hQ _ _ hw (h.2 _ ha)⟩
  | fuel + 1, listed, M, a, w, ha, hw, h => ⟨fun h0 => hQ _ _ hw (h.1 h0 _ ha), fun i hi => by
    have hs := h.2 i hi
    unfold sOp at hs
    unfold wpOp
    split
    · rename_i ho; simp only [ho] at hs; exact wpAny_of_M hQ fuel _ _ _ _ ha hw hs
    · rename_i o ho
      simp only [ho] at hs
      obtain ⟨S, h1, h2⟩ := hs
      have h3 := h1 a ha w hw
      split
      · rename_i hwt
        exact .inl ((h3.1 hwt).wp fun v w' ⟨hv, hC⟩ => wpAny_of_M hQ fuel _ _ _ _ ⟨a, v, ha, hv, rfl⟩ hC h2)
      · rename_i hwt
        exact wpAny_of_M hQ fuel _ _ _ _ ⟨a, undef, ha, h3.2 (by simpa using hwt), rfl⟩ hw h2⟩
theorem Yld.exists {o : Oper} {a : Act} {w : World} {R : Value → World → Prop} (h : Yld P o a w R) : ∃ v w', R v w' := by
  rcases h with ⟨v, w', _, r⟩ | ⟨w', _, r⟩ | ⟨f, args, _, hc⟩
  · exact ⟨_, _, r⟩
  · exact ⟨_, _, r⟩
  · obtain ⟨e, w', _, ⟨v, _, r⟩, _⟩ := hc []
    exact ⟨_, _, r⟩
theorem YieldsS.exists {o : Oper} {S : Value → Prop} {M : Act → Prop} (h : YieldsS P ops C o S M) {a : Act} (ha : M a) {w : World} (hw : C w) : ∃ v, S v := by
  have := h a ha w hw
  cases hb : Region.wanted o (yielded ops a.tmps) with
  | true => obtain ⟨v, w', hv, _⟩ := (this.1 hb).exists; exact ⟨v, hv⟩
  | false => exact ⟨_, this.2 hb⟩
theorem Yld.congr {o : Oper} {a b : Act} {w : World} {R : Value → World → Prop} (h : Yld P o a w R) (e : execOp b.eval o = execOp a.eval o) : Yld P o b w R := by
  unfold Yld; rw [e]; exact h
/-- what an operation writes is nothing to one that is apart from it -/
theorem YieldsS.put {o : Oper} {S : Value → Prop} {M : Act → Prop} (hs : ∀ cs b, o.op ≠ .select cs b) (h : YieldsS P ops C o S M) {dst : Option Tmp} (T : Value → Prop) (hd : ∀ d, dst = some d → d ∉ o.looksAt ops) : YieldsS P ops C o S (putM M dst T) := by
  rintro _ ⟨a, v, ha, _, rfl⟩ w hw
  have := h a ha w hw
  rw [wanted_put o a dst v hd]
  exact ⟨fun h => (this.1 h).congr (execOp_put o hs a dst v hd), this.2⟩
theorem YieldsS.unput {o : Oper} {S : Value → Prop} {M : Act → Prop} (hs : ∀ cs b, o.op ≠ .select cs b) {dst : Option Tmp} {T : Value → Prop} (h : YieldsS P ops C o S (putM M dst T)) (hT : ∀ a, M a → ∀ w, C w → ∃ v, T v) (hd : ∀ d, dst = some d → d ∉ o.looksAt ops) : YieldsS P ops C o S M := by
  intro a ha w hw
  obtain ⟨v, hv⟩ := hT a ha w hw
  have := h (a.put dst v) ⟨a, v, ha, hv, rfl⟩ w hw
  rw [wanted_put o a dst v hd] at this
  exact ⟨fun h => (this.1 h).congr (execOp_put o hs a dst v hd).symm, this.2⟩
theorem putM_comm (M : Act → Prop) {x y : Option Tmp} (S T : Value → Prop) (h : ∀ d, x = some d → y ≠ some d) : putM (putM M x S) y T = putM (putM M y T) x S := by
  funext b
  refine propext ⟨?_, ?_⟩
  · rintro ⟨_, u, ⟨a, v, ha, hv, rfl⟩, hu, rfl⟩
    exact ⟨_, v, ⟨a, u, ha, hu, rfl⟩, hv, Act.put_comm a v u h⟩
  · rintro ⟨_, v, ⟨a, u, ha, hu, rfl⟩, hv, rfl⟩
    exact ⟨_, u, ⟨a, v, ha, hv, rfl⟩, hu, (Act.put_comm a v u h).symm⟩
theorem sOp_put {j : Nat} {oi oj : Oper} {S : Value → Prop} (hj : ops[j]? = some oj) (hap : oi.apart ops oj = true)
    (hsi : ∀ cs b, oi.op ≠ .select cs b) (hsj : ∀ cs b, oj.op ≠ .select cs b) {K : (Act → Prop) → Prop} {M : Act → Prop}
    (hy : YieldsS P ops C oi S M) (h : sOp P ops C j K (putM M oi.dst S)) :
    sOp P ops C j (fun M' => YieldsS P ops C oi S M' ∧ K (putM M' oi.dst S)) M := by
  obtain ⟨h1, h2, h3⟩ := Oper.apart_spec hap
  unfold sOp at *
  simp only [hj] at *
  obtain ⟨T, hT, hK⟩ := h
  exact ⟨T, hT.unput hsj (fun a ha w hw => hy.exists ha hw) h1, hy.put hsi T h3, by rw [← putM_comm M S T h2]; exact hK⟩
theorem wpAnyM_first {Q : Act → Prop} {i : Nat} {oi : Oper} {S : Value → Prop} (hi : ops[i]? = some oi) (hsel : ∀ (j : Nat) (o : Oper) cs b, ops[j]? = some o → o.op ≠ .select cs b) :
    ∀ (fuel : Nat) (listed : Array Bool) (M : Act → Prop),
      (∀ j oj, ops[j]? = some oj → j ≠ i → listed.getD j true = false → (∀ e ∈ oj.after, Region.binds .any e = true → e.on ≠ i) → oi.apart ops oj = true) →
      i ∈ Region.ready .any ops listed → YieldsS P ops C oi S M →
      wpAnyM P ops C Q fuel (listed.setIfInBounds i true) (putM M oi.dst S) → wpAnyM P ops C Q (fuel + 1) listed M := by
  have own : ∀ {K : (Act → Prop) → Prop} {M : Act → Prop}, YieldsS P ops C oi S M → K (putM M oi.dst S) → sOp P ops C i K M := fun hy hk => by
    unfold sOp; simp only [hi]; exact ⟨S, hy, hk⟩
  intro fuel
  induction fuel with
  | zero =>
    intro listed M _ hr hy H
    refine ⟨fun h => (by rw [h] at hr; cases hr), fun j hj => ?_⟩
    by_cases hji : j = i
    · subst hji; exact own hy H
    · have := ready_mono hj hji
      rw [H.1] at this
      cases this
  | succ fuel ih =>
    intro listed M hfree hr hy H
    refine ⟨fun h => (by rw [h] at hr; cases hr), fun j hj => ?_⟩
    by_cases hji : j = i
    · subst hji; exact own hy H
    · have h1 := H.2 j (ready_mono hj hji)
      obtain ⟨hjun, oj, hoj, hall⟩ := mem_ready.1 hj
      have hnot : ∀ e ∈ oj.after, Region.binds .any e = true → e.on ≠ i := fun e he hb heq => by
        have h1 := hall e he hb
        have h0 := (mem_ready.1 hr).1
        rw [heq] at h1
        rcases Nat.lt_or_ge i listed.size with h' | h'
        · simp [h'] at h0 h1; rw [h0] at h1; cases h1
        · simp [Array.getElem?_eq_none h'] at h1
      have h2 := sOp_put hoj (hfree j oj hoj hji hjun hnot) (fun cs b => hsel i oi cs b hi) (fun cs b => hsel j oj cs b hoj) hy h1
      have hfree' : ∀ k ok, ops[k]? = some ok → k ≠ i → (listed.setIfInBounds j true).getD k true = false →
          (∀ e ∈ ok.after, Region.binds .any e = true → e.on ≠ i) → oi.apart ops ok = true := fun k ok hk hki hun hno => by
        refine hfree k ok hk hki ?_ hno
        by_cases hjk : j = k
        · subst hjk; exact hjun
        · rw [getD_set_ne true hjk] at hun; exact hun
      refine sOp_mono (fun M' h3 => ih (listed.setIfInBounds j true) M' hfree' (ready_mono hr (Ne.symm hji)) h3.1 ?_) h2
      rw [Array.setIfInBounds_comm _ _ hji]
      exact h3.2
theorem wpAnyM_lex {Q : Act → Prop} (hs : Region.noSelect ops = true) : ∀ (l : List Oper) (k : Nat) (listed : Array Bool) (M : Act → Prop), (∀ j, l[j]? = ops[k + j]?) →
    Region.lexFrom .any ops l.length k listed = true → wpLexM P ops C Q l M → wpAnyM P ops C Q l.length listed M
  | [], _, _, _, _, hB, h => ⟨by simpa [Region.lexFrom] using hB, h⟩
  | o :: l, k, listed, M, hl, hB, h => by
    have h0 : ops[k]? = some o := by simpa using (hl 0).symm
    simp only [List.length_cons, Region.lexFrom, Bool.and_eq_true] at hB
    obtain ⟨⟨hr, hf⟩, hB'⟩ := hB
    obtain ⟨S, hy, hK⟩ := h
    exact wpAnyM_first h0 (Region.noSelect_spec hs) l.length listed M (Region.free_spec h0 hf) (by simpa using hr) hy
      (wpAnyM_lex hs l (k + 1) _ _ (fun j => by have := hl (j + 1); simpa [Nat.add_assoc, Nat.add_comm 1 j] using this) hB' hK)
def wpAnyLM (P : Program) (ops : Array Oper) (C : World → Prop) (n : Nat) (L : Array Bool → (Act → Prop) → Prop) : Nat → Array Bool → (Act → Prop) → Prop
  | 0, listed, M => L listed M
  | f + 1, listed, M => Region.ready .any ops listed ≠ [] ∧ ∀ i ∈ Region.ready .any ops listed, i < n ∧ sOp P ops C i (wpAnyLM P ops C n L f (listed.setIfInBounds i true)) M
theorem wpAny_of_headM {n g : Nat} {L : Array Bool → (Act → Prop) → Prop} {Q' : Exit → Act → World → Prop} (hL : ∀ listed M, L listed M → ∀ a w, M a → C w → wpAny P .any ops Q' g listed a w) :
    ∀ (f : Nat) (listed : Array Bool) (M : Act → Prop), wpAnyLM P ops C n L f listed M → ∀ a w, M a → C w → wpAny P .any ops Q' (f + g) listed a w
  | 0, listed, M, h, a, w, ha, hw => by rw [Nat.zero_add]; exact hL _ _ h a w ha hw
  | f + 1, listed, M, h, a, w, ha, hw => by
    rw [show f + 1 + g = (f + g) + 1 by omega]
    refine ⟨fun h0 => absurd h0 h.1, fun i hi => ?_⟩
    have hs := (h.2 i hi).2
    unfold sOp at hs
    unfold wpOp
    split
    · rename_i ho; simp only [ho] at hs; exact wpAny_of_headM hL f _ _ hs a w ha hw
    · rename_i o ho
      simp only [ho] at hs
      obtain ⟨S, h1, h2⟩ := hs
      have h3 := h1 a ha w hw
      split
      · rename_i hwt
        exact .inl ((h3.1 hwt).wp fun v w' ⟨hv, hC⟩ => wpAny_of_headM hL f _ _ h2 _ _ ⟨a, v, ha, hv, rfl⟩ hC)
      · rename_i hwt
        exact wpAny_of_headM hL f _ _ h2 _ _ ⟨a, undef, ha, h3.2 (by simpa using hwt), rfl⟩ hw
theorem wpAnyLM_first {n i : Nat} {oi : Oper} {S : Value → Prop} {L : Array Bool → (Act → Prop) → Prop} (hi : ops[i]? = some oi) (hsel : ∀ (j : Nat) (o : Oper) cs b, ops[j]? = some o → o.op ≠ .select cs b)
    (hs : Region.sinkB .any ops n = true) (hc : Region.chainB .any ops n = true) (hn : n < ops.size) (hin : i < n)
    (hdone : ∀ listed M, L listed M → ∀ j ∈ Region.ready .any ops listed, n ≤ j) :
    ∀ (f : Nat) (listed : Array Bool) (M : Act → Prop), HeadInv .any ops n listed →
      (∀ j oj, ops[j]? = some oj → j ≠ i → listed.getD j true = false → (∀ e ∈ oj.after, Region.binds .any e = true → e.on ≠ i) → oi.apart ops oj = true) →
      i ∈ Region.ready .any ops listed → YieldsS P ops C oi S M →
      wpAnyLM P ops C n L f (listed.setIfInBounds i true) (putM M oi.dst S) → wpAnyLM P ops C n L (f + 1) listed M := by
  have own : ∀ {K : (Act → Prop) → Prop} {M : Act → Prop}, YieldsS P ops C oi S M → K (putM M oi.dst S) → sOp P ops C i K M := fun hy hk => by
    unfold sOp; simp only [hi]; exact ⟨S, hy, hk⟩
  intro f
  induction f with
  | zero =>
    intro listed M inv _ hr hy H
    have hun := (mem_ready.1 hr).1
    refine ⟨fun h => (by rw [h] at hr; cases hr), fun j hj => ?_⟩
    have hjn : j < n := by
      rcases Nat.lt_or_ge j n with h | h
      · exact h
      · exact absurd hj (tail_waits hs hc hn inv _ i rfl hin hun j h)
    refine ⟨hjn, ?_⟩
    by_cases hji : j = i
    · subst hji; exact own hy H
    · have := hdone _ _ H j (ready_mono hj hji)
      omega
  | succ f ih =>
    intro listed M inv hfree hr hy H
    have hun := (mem_ready.1 hr).1
    refine ⟨fun h => (by rw [h] at hr; cases hr), fun j hj => ?_⟩
    have hjn : j < n := by
      rcases Nat.lt_or_ge j n with h | h
      · exact h
      · exact absurd hj (tail_waits hs hc hn inv _ i rfl hin hun j h)
    refine ⟨hjn, ?_⟩
    by_cases hji : j = i
    · subst hji; exact own hy H
    · have h1 := (H.2 j (ready_mono hj hji)).2
      obtain ⟨hjun, oj, hoj, hall⟩ := mem_ready.1 hj
      have hnot : ∀ e ∈ oj.after, Region.binds .any e = true → e.on ≠ i := fun e he hb heq => by
        have h1 := hall e he hb
        rw [heq, getD_both hun] at h1
        cases h1
      have h2 := sOp_put hoj (hfree j oj hoj hji hjun hnot) (fun cs b => hsel i oi cs b hi) (fun cs b => hsel j oj cs b hoj) hy h1
      have hfree' : ∀ k ok, ops[k]? = some ok → k ≠ i → (listed.setIfInBounds j true).getD k true = false →
          (∀ e ∈ ok.after, Region.binds .any e = true → e.on ≠ i) → oi.apart ops ok = true := fun k ok hk hki hun hno => by
        refine hfree k ok hk hki ?_ hno
        by_cases hjk : j = k
        · subst hjk; exact hjun
        · rw [getD_set_ne true hjk] at hun; exact hun
      refine sOp_mono (fun M' h3 => ih (listed.setIfInBounds j true) M' (inv.set hj hjn) hfree' (ready_mono hr (Ne.symm hji)) h3.1 ?_) h2
      rw [Array.setIfInBounds_comm _ _ hji]
      exact h3.2
theorem wpAnyLM_lex {n g : Nat} {Lq : Act → Prop} (hsel : Region.noSelect ops = true) (hs : Region.sinkB .any ops n = true) (hc : Region.chainB .any ops n = true) (hn : n < ops.size) :
    ∀ (l : List Oper) (k : Nat) (listed : Array Bool) (M : Act → Prop), (∀ j, j < l.length → l[j]? = ops[k + j]?) → k + l.length = n → HeadInv .any ops n listed →
    Region.lexHead .any ops g l.length k listed = true → wpLexM P ops C Lq l M →
    wpAnyLM P ops C n (fun listed' M' => Region.seqB .any ops g n listed' = true ∧ ∀ a, M' a → Lq a) l.length listed M
  | [], k, listed, M, _, hk, _, hB, h => by
    have : k = n := by simpa using hk
    subst this
    exact ⟨by simpa [Region.lexHead] using hB, h⟩
  | o :: l, k, listed, M, hl, hk, inv, hB, h => by
    have h0 : ops[k]? = some o := by simpa using (hl 0 (by simp)).symm
    simp only [List.length_cons, Region.lexHead, Bool.and_eq_true] at hB
    obtain ⟨⟨hr, hf⟩, hB'⟩ := hB
    have hkn : k < n := by simp only [List.length_cons] at hk; omega
    have hr' : k ∈ Region.ready .any ops listed := by simpa using hr
    obtain ⟨S, hy, hK⟩ := h
    exact wpAnyLM_first h0 (Region.noSelect_spec hsel) hs hc hn hkn (fun listed' M' hL => seqB_ready hL.1) l.length listed M inv (Region.free_spec h0 hf) hr' hy
      (wpAnyLM_lex hsel hs hc hn l (k + 1) _ _ (fun j hj => by have := hl (j + 1) (by simp; omega); simpa [Nat.add_assoc, Nat.add_comm 1 j] using this) (by simp only [List.length_cons] at hk; omega) (inv.set hr' hkn) hB' hK)
theorem wp_region_tailM {id : Nat} {Q : Exit → Act → World → Prop} {a : Act} {w : World} {l : List Oper} (n : Nat) (hm : P.follows .mixedOrders = true) (hB : Region.lexTailB .any l.toArray n = true) (hC : C { w with drawn := w.drawn + 1 }) {M : Act → Prop} (ha : M a)
    (h : wpLexM P l.toArray C (fun a' => ∀ w', C w' → wpList P l.toArray Q (l.drop n) a' w') (l.take n) M) : (Code.region id l.toArray true).wp P Q a w := by
  simp only [Region.lexTailB, Bool.and_eq_true, decide_eq_true_eq] at hB
  obtain ⟨⟨⟨⟨hsel, hn⟩, hs⟩, hc⟩, hlex⟩ := hB
  have hn' : n < l.length := by simpa using hn
  have htl : (l.take n).length = n := by simp; omega
  have hdl : (l.drop n).length = l.toArray.size - n := by simp
  have inv0 : HeadInv .any l.toArray n (Array.replicate l.toArray.size false) :=
    ⟨by simp, fun j oj _ hl => (by rw [getD_replicate_false] at hl; cases hl), fun t _ ht => getD_in (by simpa using ht) (getD_replicate_false _ _)⟩
  have H := wpAnyLM_lex (C := C) (g := l.toArray.size - n) hsel hs hc hn (l.take n) 0 _ M (fun j hj => by
    have hj' : j < n := by rw [htl] at hj; exact hj
    simp [hj']) (by simpa using htl) inv0 (by rw [htl]; exact hlex) h
  refine wp_region_any hm ?_
  have := wpAny_of_headM (Q' := Q) (g := l.toArray.size - n) (fun listed M' hL a' w' ha' hw' => by
    have := wpAny_of_seq (md := .any) (Q' := Q) (l.drop n) n listed a' w' (fun j => by simp [List.getElem?_drop]) (by rw [hdl]; exact hL.1) (hL.2 a' ha' w' hw')
    rwa [hdl] at this) _ _ _ H a _ ha hC
  rw [htl, show n + (l.toArray.size - n) = l.toArray.size by omega] at this
  exact this
theorem wp_region_M {id : Nat} {Q : Exit → Act → World → Prop} {a : Act} {w : World} (hm : P.follows .mixedOrders = true) (hB : Region.lexB .any ops = true) (hC : C { w with drawn := w.drawn + 1 }) {M : Act → Prop} (ha : M a)
    (h : wpLexM P ops C (fun a' => ∀ w', C w' → Q .normal a' w') ops.toList M) : (Code.region id ops true).wp P Q a w := by
  simp only [Region.lexB, Bool.and_eq_true] at hB
  refine wp_region_any hm (wpAny_of_M (Q := fun a' => ∀ w', C w' → Q .normal a' w') (fun _ w' hw' h => h w' hw') _ _ M _ _ ha hC ?_)
  have := wpAnyM_lex (C := C) hB.1 ops.toList 0 (Array.replicate ops.size false) M (by simp) (by simpa using hB.2) h
  simpa using this
end
section
variable {P : Program} {c : Cfg} (htt : TtOk P c.tt) (hE : EnvOk P c.E) {W : Nat → Prop} {w : World} {μ : Nat → Loc} {H : Heap} (hH : HRel μ W H w) (hW : Wide W w)
def frames (μ : Nat → Loc) (N : Nat) (A : List V) : Act → Prop := fun a => relA μ N A a.tmps ∧ a.defers = []
include htt hE hH hW
theorem stepQ_ok {id : List Oper} {l : List Oper} {o : Oper} {A : List V} {K : List V → Prop} (h : stepQ c o A H K) {Q : Act → Prop} (hw : ∀ a : Act, relA μ H.length A a.tmps → Region.wanted o (yielded id.toArray a.tmps) = true)
    (k : ∀ A', K A' → wpLexM P id.toArray (Fr nowhere w) Q l (frames μ H.length A')) : wpLexM P id.toArray (Fr nowhere w) Q (o :: l) (frames μ H.length A) := by
  unfold stepQ at h
  split at h
  · rename_i v p hop
    obtain ⟨hp, hk⟩ := obs_iff h
    refine ⟨relV μ H.length v, fun a ha w' hw' => ⟨fun _ => ?_, fun hb => ?_⟩, wpLexM_anti (k _ hk) ?_⟩
    · have hW' : Wide W w' := hW.step (hw'.mono fun _ _ h => h.elim)
      exact (aopQ_ok htt hE hop hp hW' ha.1 (hH.quiet hw')).mono fun x w'' ⟨r, f⟩ => ⟨r, hw'.trans f⟩
    · rw [hw a ha.1] at hb; cases hb
    · rintro _ ⟨a, x, ha, hx, rfl⟩
      exact ⟨putA_rel ha.1 hx _, by rw [put_defers]; exact ha.2⟩
  · cases h
theorem aopsQ_ok {id : List Oper} {Q : Act → Prop} : ∀ {l : List Oper} {A : List V} {K : List V → Prop}, aopsQ c id H l A K → (∀ A' a, K A' → frames μ H.length A' a → Q a) → wpLexM P id.toArray (Fr nowhere w) Q l (frames μ H.length A)
  | [], A, K, h, k => fun a ha => k _ _ h ha
  | o :: r, A, K, h, k => by
    unfold aopsQ at h
    have hg : ∀ {a : Act}, relA μ H.length A a.tmps → GOk id o A a (guardA id o A) := fun {a} h3 => guard_ok (ops := id) (o := o) (a := a) h3
    have skip : ∀ {A' : List V}, aopsQ c id H r (putA A' o.dst .n) K → (∀ a : Act, relA μ H.length A' a.tmps → Region.wanted o (yielded id.toArray a.tmps) = false) → wpLexM P id.toArray (Fr nowhere w) Q (o :: r) (frames μ H.length A') := fun hk hw => by
      refine ⟨fun x => x = undef, fun a ha w' hw' => ⟨fun hb => ?_, fun _ => rfl⟩, wpLexM_anti (aopsQ_ok hk k) ?_⟩
      · rw [hw a ha.1] at hb; cases hb
      · rintro _ ⟨a, x, ha, rfl, rfl⟩
        exact ⟨putA_rel (v := V.n) (x := undef) ha.1 rfl _, by rw [put_defers]; exact ha.2⟩
    split at h
    · rename_i hg'
      exact stepQ_ok htt hE hH hW h (fun a ha => by have := hg ha; rw [hg'] at this; exact this) fun A' hA' => aopsQ_ok hA' k
    · rename_i hg'
      exact skip h fun a ha => by have := hg ha; rw [hg'] at this; exact this
    · rename_i d t want hg'
      obtain ⟨hT, hF⟩ := h
      have nar : ∀ b, t () = b → ∀ a, frames μ H.length A a → frames μ H.length (A.set d (.c (.b (.l b)))) a := fun b hb a ha => by
        have := hg ha.1; rw [hg'] at this
        exact ⟨setB_rel ha.1 this.1 hb, ha.2⟩
      by_cases hne : ∃ a, frames μ H.length A a
      · obtain ⟨a₁, ha₁⟩ := hne
        have hd : A[d]? = some (.c (.b (.x t))) := by have := hg ha₁.1; rw [hg'] at this; exact this.1
        have wt : ∀ b, t () = b → ∀ a : Act, relA μ H.length (A.set d (.c (.b (.l b)))) a.tmps → Region.wanted o (yielded id.toArray a.tmps) = (t () == want) := fun b hb a ha => by
          have hA : relA μ H.length A a.tmps := by
            have e : A = (A.set d (.c (.b (.l b)))).set d (.c (.b (.x t))) := by
              rw [List.set_set]
              exact (set_self hd).symm
            obtain ⟨x, hx, hr⟩ := relA_slot ha (d := d) (v := .c (.b (.l b))) (by rw [List.getElem?_set_self (lt_of_get hd)])
            have hr' : relV μ H.length (.c (.b (.x t))) x := by
              have hr : x = .bool b := hr
              show x = .bool (t ())
              rw [hb]; exact hr
            rw [e]
            have := relL.set ha d hr'
            rwa [set_self hx] at this
          have := hg hA; rw [hg'] at this
          exact this.2
        cases ht : t () with
        | true =>
          have h := hT ht
          refine wpLexM_anti ?_ (nar true ht)
          cases want with
          | true => exact stepQ_ok htt hE hH hW h (fun a ha => by rw [wt true ht a ha, ht]; rfl) fun A' hA' => aopsQ_ok hA' k
          | false => exact skip h fun a ha => by rw [wt true ht a ha, ht]; rfl
        | false =>
          have h := hF ht
          refine wpLexM_anti ?_ (nar false ht)
          cases want with
          | false => exact stepQ_ok htt hE hH hW h (fun a ha => by rw [wt false ht a ha, ht]; rfl) fun A' hA' => aopsQ_ok hA' k
          | true => exact skip h fun a ha => by rw [wt false ht a ha, ht]; rfl
      · have none : ∀ {l : List Oper} {M : Act → Prop}, (∀ a, ¬ M a) → wpLexM P id.toArray (Fr nowhere w) Q l M := by
          intro l
          induction l with
          | nil => exact fun h a ha => (h a ha).elim
          | cons o l ih => exact fun h => ⟨fun _ => False, fun a ha => (h a ha).elim, ih fun _ ⟨a, _, ha, _⟩ => h a ha⟩
        exact none fun a ha => hne ⟨a, ha⟩
    · cases h
end
/-! ### quiet operations first, then the others in each order -/
section
variable {P : Program} {ops : Array Oper}
def YStep (P : Program) (ops : Array Oper) (o : Oper) (K : Act → World → Prop) (a : Act) (w : World) : Prop :=
  (Region.wanted o (yielded ops a.tmps) = true → Yld P o a w fun v w' => K (a.put o.dst v) w') ∧ (Region.wanted o (yielded ops a.tmps) = false → K (a.put o.dst undef) w)
theorem YStep.mono {o : Oper} {K K' : Act → World → Prop} {a : Act} {w : World} (h : YStep P ops o K a w) (k : ∀ a w, K a w → K' a w) : YStep P ops o K' a w :=
  ⟨fun hw => (h.1 hw).mono fun _ _ r => k _ _ r, fun hw => k _ _ (h.2 hw)⟩
theorem YStep.unput {o : Oper} (hs : ∀ cs b, o.op ≠ .select cs b) {K : Act → World → Prop} {a : Act} {w : World} {dst : Option Tmp} {x : Value}
    (hd : ∀ d, dst = some d → d ∉ o.looksAt ops) (hne : ∀ d, dst = some d → o.dst ≠ some d) (h : YStep P ops o K (a.put dst x) w) : YStep P ops o (fun a' w' => K (a'.put dst x) w') a w := by
  unfold YStep at *
  rw [wanted_put o a dst x hd] at h
  refine ⟨fun hw => ((h.1 hw).congr (execOp_put o hs a dst x hd).symm).mono fun v w' r => ?_, fun hw => ?_⟩
  · rw [Act.put_comm a x v hne] at r; exact r
  · have r := h.2 hw; rw [Act.put_comm a x undef hne] at r; exact r
theorem put_put (a : Act) (d : Option Tmp) (v u : Value) : (a.put d v).put d u = a.put d u := by
  cases d <;> simp [Act.put]
theorem YStep.self {o : Oper} (hs : ∀ cs b, o.op ≠ .select cs b) {K : Act → World → Prop} {a : Act} {w : World} {x : Value}
    (hd : ∀ d, o.dst = some d → d ∉ o.looksAt ops) (h : YStep P ops o K (a.put o.dst x) w) : YStep P ops o K a w := by
  unfold YStep at *
  rw [wanted_put o a o.dst x hd] at h
  refine ⟨fun hw => ((h.1 hw).congr (execOp_put o hs a o.dst x hd).symm).mono fun v w' r => ?_, fun hw => ?_⟩
  · rw [put_put] at r; exact r
  · have r := h.2 hw; rw [put_put] at r; exact r
/-- doing it again changes nothing that is told -/
def Stab (P : Program) (ops : Array Oper) (I : List Nat) (M : Act → World → Prop) : Prop := ∀ i ∈ I, ∃ o, ops[i]? = some o ∧ ∀ a w, M a w → YStep P ops o M a w
def SemI (P : Program) (ops : Array Oper) (I : List Nat) (Q : Act → World → Prop) : Nat → Array Bool → (Act → World → Prop) → Prop
  | 0, listed, M => Stab P ops I M ∧ ∀ a w, M a w → Region.ready .any ops listed = [] ∧ Q a w
  | f + 1, listed, M => Stab P ops I M ∧ (Region.ready .any ops listed = [] → ∀ a w, M a w → Q a w) ∧
    ∀ j ∈ Region.ready .any ops listed, ∃ o M', ops[j]? = some o ∧ (∀ a w, M a w → YStep P ops o M' a w) ∧ SemI P ops I Q f (listed.setIfInBounds j true) M'
theorem SemI.stab {I : List Nat} {Q : Act → World → Prop} : ∀ {f : Nat} {listed : Array Bool} {M : Act → World → Prop}, SemI P ops I Q f listed M → Stab P ops I M
  | 0, _, _, h => h.1
  | _ + 1, _, _, h => h.1
theorem SemI.any {I : List Nat} {Q : Act → World → Prop} {R : Exit → Act → World → Prop} (hQ : ∀ a w, Q a w → R .normal a w) : ∀ {f : Nat} {listed : Array Bool} {M : Act → World → Prop}, SemI P ops I Q f listed M → ∀ {a : Act} {w : World}, M a w → wpAny P .any ops R f listed a w
  | 0, _, _, h, a, w, ha => ⟨(h.2 a w ha).1, hQ _ _ (h.2 a w ha).2⟩
  | f + 1, _, _, h, a, w, ha => ⟨fun h0 => hQ _ _ (h.2.1 h0 a w ha), fun i hi => by
    obtain ⟨o, M', ho, hy, hn⟩ := h.2.2 i hi
    have h3 := hy a w ha
    unfold wpOp
    simp only [ho]
    split
    · rename_i hw
      exact .inl ((h3.1 hw).wp fun v w' r => SemI.any hQ hn r)
    · rename_i hw
      exact SemI.any hQ hn (h3.2 (by simpa using hw))⟩
theorem SemI.less {I I' : List Nat} (hI : ∀ i ∈ I', i ∈ I) {Q : Act → World → Prop} : ∀ {f : Nat} {listed : Array Bool} {M : Act → World → Prop}, SemI P ops I Q f listed M → SemI P ops I' Q f listed M
  | 0, _, _, h => ⟨fun i hi => h.1 i (hI i hi), h.2⟩
  | _ + 1, _, _, h => ⟨fun i hi => h.1 i (hI i hi), h.2.1, fun j hj => by
    obtain ⟨o, M', h1, h2, h3⟩ := h.2.2 j hj
    exact ⟨o, M', h1, h2, h3.less hI⟩⟩
/-- before the operation was done -/
def undo (dst : Option Tmp) (M : Act → World → Prop) : Act → World → Prop := fun a w => ∃ x, M (a.put dst x) w
theorem Stab.undo {I : List Nat} {i : Nat} {oi : Oper} {M : Act → World → Prop} (hsel : ∀ (j : Nat) (o : Oper) cs b, ops[j]? = some o → o.op ≠ .select cs b)
    (hI : ∀ k ∈ I, ∀ ok, ops[k]? = some ok → (∀ d, oi.dst = some d → d ∉ ok.looksAt ops) ∧ (∀ d, oi.dst = some d → ok.dst ≠ some d)) (h : Stab P ops (i :: I) M) : Stab P ops I (undo oi.dst M) := fun k hk => by
  obtain ⟨o, ho, hy⟩ := h k (List.mem_cons_of_mem _ hk)
  refine ⟨o, ho, fun a w ⟨x, hx⟩ => ?_⟩
  obtain ⟨h1, h2⟩ := hI k hk o ho
  exact ((hy _ _ hx).unput (fun cs b => hsel k o cs b ho) h1 h2).mono fun a w r => ⟨x, r⟩
theorem SemI.pull {I : List Nat} {Q : Act → World → Prop} {i : Nat} {oi : Oper} (hi : ops[i]? = some oi) (hsel : ∀ (j : Nat) (o : Oper) cs b, ops[j]? = some o → o.op ≠ .select cs b)
    (hI : ∀ k ∈ I, ∀ ok, ops[k]? = some ok → (∀ d, oi.dst = some d → d ∉ ok.looksAt ops) ∧ (∀ d, oi.dst = some d → ok.dst ≠ some d)) (hself : ∀ d, oi.dst = some d → d ∉ oi.looksAt ops) :
    ∀ (f : Nat) (listed : Array Bool) (M : Act → World → Prop),
      (∀ j oj, ops[j]? = some oj → j ≠ i → listed.getD j true = false → (∀ e ∈ oj.after, Region.binds .any e = true → e.on ≠ i) → oi.apart ops oj = true) →
      i ∈ Region.ready .any ops listed → SemI P ops (i :: I) Q f (listed.setIfInBounds i true) M → SemI P ops I Q (f + 1) listed (undo oi.dst M) := by
  have own : ∀ {M : Act → World → Prop}, Stab P ops (i :: I) M → ∀ a w, undo oi.dst M a w → YStep P ops oi M a w := fun hs a w ⟨x, hx⟩ => by
    obtain ⟨o, ho, hy⟩ := hs i (List.mem_cons_self ..)
    rw [hi] at ho; cases ho
    exact (hy _ _ hx).self (fun cs b => hsel i oi cs b hi) hself
  intro f
  induction f with
  | zero =>
    intro listed M _ hr h
    refine ⟨h.stab.undo hsel hI, fun h0 => (by rw [h0] at hr; cases hr), fun j hj => ?_⟩
    by_cases hji : j = i
    · subst hji; exact ⟨oi, M, hi, own h.stab, h.less fun _ hk => List.mem_cons_of_mem _ hk⟩
    · obtain ⟨_, oj, hoj, _⟩ := mem_ready.1 hj
      refine ⟨oj, fun _ _ => False, hoj, fun a w ⟨x, hx⟩ => ?_, fun k hk => ?_, fun a w h => h.elim⟩
      · have := ready_mono hj hji
        rw [(h.2 _ _ hx).1] at this
        cases this
      · obtain ⟨o, ho, _⟩ := h.stab k (List.mem_cons_of_mem _ hk)
        exact ⟨o, ho, fun _ _ h => h.elim⟩
  | succ f ih =>
    intro listed M hfree hr h
    refine ⟨h.stab.undo hsel hI, fun h0 => (by rw [h0] at hr; cases hr), fun j hj => ?_⟩
    by_cases hji : j = i
    · subst hji; exact ⟨oi, M, hi, own h.stab, h.less fun _ hk => List.mem_cons_of_mem _ hk⟩
    · obtain ⟨oj, M', hoj, hy, hn⟩ := h.2.2 j (ready_mono hj hji)
      obtain ⟨hjun, oj', hoj', hall⟩ := mem_ready.1 hj
      rw [hoj] at hoj'; cases hoj'
      have hnot : ∀ e ∈ oj.after, Region.binds .any e = true → e.on ≠ i := fun e he hb heq => by
        have h1 := hall e he hb
        have h0 := (mem_ready.1 hr).1
        rw [heq, getD_both h0] at h1
        cases h1
      obtain ⟨h1, h2, h3⟩ := Oper.apart_spec (hfree j oj hoj hji hjun hnot)
      have hfree' : ∀ k ok, ops[k]? = some ok → k ≠ i → (listed.setIfInBounds j true).getD k true = false →
          (∀ e ∈ ok.after, Region.binds .any e = true → e.on ≠ i) → oi.apart ops ok = true := fun k ok hk hki hun hno => by
        refine hfree k ok hk hki ?_ hno
        by_cases hjk : j = k
        · subst hjk; exact hjun
        · rw [getD_set_ne true hjk] at hun; exact hun
      refine ⟨oj, undo oi.dst M', hoj, fun a w ⟨x, hx⟩ => ?_, ?_⟩
      · exact ((hy _ _ hx).unput (fun cs b => hsel j oj cs b hoj) h1 h2).mono fun a w r => ⟨x, r⟩
      · refine ih _ _ hfree' (ready_mono hr (Ne.symm hji)) ?_
        rw [Array.setIfInBounds_comm _ _ hji]
        exact hn
theorem pullB_some {ops : Array Oper} : ∀ {I done : List Nat} {listed : Array Bool}, pullB ops I done listed = true → ∀ i ∈ I, (ops[i]?).isSome = true
  | [], _, _, _, i, hi => by cases hi
  | j :: r, done, listed, h, i, hi => by
    simp only [pullB, Bool.and_eq_true] at h
    rcases List.mem_cons.1 hi with rfl | hi
    · cases ho : ops[i]? with
      | none => rw [ho] at h; exact absurd h.1.2 (fun h => by cases h)
      | some o => rfl
    · exact pullB_some h.2 i hi
def undoAll (ops : Array Oper) : List Nat → (Act → World → Prop) → Act → World → Prop
  | [], M => M
  | i :: r, M => undo ((ops[i]?).bind (·.dst)) (undoAll ops r M)
theorem undoAll_mono {M M' : Act → World → Prop} (h : ∀ a w, M a w → M' a w) : ∀ {I : List Nat} {a : Act} {w : World}, undoAll ops I M a w → undoAll ops I M' a w
  | [], _, _, hu => h _ _ hu
  | _ :: _, _, _, ⟨x, hu⟩ => ⟨x, undoAll_mono h hu⟩
theorem SemI.pulls {Q : Act → World → Prop} (hsel : ∀ (j : Nat) (o : Oper) cs b, ops[j]? = some o → o.op ≠ .select cs b) : ∀ (I done : List Nat) (f : Nat) (listed : Array Bool) (M : Act → World → Prop), pullB ops I done listed = true →
    SemI P ops (I.reverse ++ done) Q f (listAll I listed) M → SemI P ops done Q (f + I.length) listed (undoAll ops I M)
  | [], done, f, listed, M, _, h => by simpa [listAll, undoAll] using h
  | i :: r, done, f, listed, M, hB, h => by
    simp only [pullB, Bool.and_eq_true] at hB
    obtain ⟨⟨⟨hr, hf⟩, hm⟩, hB'⟩ := hB
    have h' : SemI P ops (r.reverse ++ i :: done) Q f (listAll r (listed.setIfInBounds i true)) M := by simpa [listAll] using h
    have h2 := SemI.pulls hsel r (i :: done) f (listed.setIfInBounds i true) M hB' h'
    cases hi : ops[i]? with
    | none => rw [hi] at hm; cases hm
    | some oi =>
      rw [hi] at hm
      dsimp only at hm
      have h3 := SemI.pull hi hsel (I := done) (fun k hk ok hok => ?_) (fun d hd => ?_) _ _ _ (Region.free_spec hi hf) (by simpa using hr) h2
      · simp only [undoAll, hi, Option.bind_some, List.length_cons]
        rw [show f + (r.length + 1) = f + r.length + 1 by omega]
        exact h3
      · constructor
        · intro d hd
          rw [hd] at hm
          simp only [Bool.and_eq_true, List.all_eq_true] at hm
          have := hm.2 k hk
          rw [hok] at this
          simp at this
          exact this.1
        · intro d hd
          rw [hd] at hm
          simp only [Bool.and_eq_true, List.all_eq_true] at hm
          have := hm.2 k hk
          rw [hok] at this
          simp at this
          exact this.2
      · rw [hd] at hm
        simp only [Bool.and_eq_true] at hm
        simpa using hm.1
end
section
variable {P : Program} {tt : TT} {E : Env} (htt : TtOk P tt) (hE : EnvOk P E) {μ₀ : Nat → Loc} {n0 : Nat} {W : Nat → Prop} {w₀ : World}
include htt hE
theorem step_okY {o : Oper} {A : List V} {H : Heap} {K : List V → Heap → Prop} (h : stepA tt E o A H K) {a : Act} {w : World} (hs : St μ₀ n0 W w₀ A H a w) {K' : Act → World → Prop}
    (k : ∀ A' H' a' w', K A' H' → St μ₀ n0 W w₀ A' H' a' w' → K' a' w') : Yld P o a w fun v w' => K' (a.put o.dst v) w' := by
  unfold stepA at h
  split at h
  · rename_i v H' p hop
    obtain ⟨hp, hk⟩ := obs_iff h
    obtain ⟨μ, h1, h2, h3, h4, h5, h6, h7⟩ := hs.out
    have hW : Wide W w := h7.step h6
    refine (aop_ok htt hE hop hp hW h3 h5).mono fun x w' ⟨ν, g1, g2, g3, g4, g5⟩ => ?_
    refine k _ _ _ _ hk ⟨ν, h1.trans (g1.mono h2), by omega, putA_rel (h3.mono g1 g2) g4 _, by rw [put_defers]; exact h4, g3, h6.trans g5, h7⟩
  · obtain ⟨μ, h1, h2, h3, h4, h5, h6, h7⟩ := hs.out
    have hW : Wide W w := h7.step h6
    have cons : ∀ {q : Unit → Prop} {p : Obl}, q () → holds p → holds (q :: p) := fun hq hp r hr => by
      rcases List.mem_cons.1 hr with rfl | hr
      · exact hq
      · exact hp r hr
    split at h
    · rename_i v1 H1 q1 p1 v2 H2 q2 p2 e1 e2
      obtain ⟨hq, hx, hy⟩ := h
      rcases hq with hq | hq
      · obtain ⟨hp, hk⟩ := obs_iff (hx hq)
        refine (aopW_ok htt (envT_ok hE) e1 (cons hq hp) hW h3 h5).mono fun x w' ⟨ν, g1, g2, g3, g4, g5⟩ => ?_
        refine k _ _ _ _ hk ⟨ν, h1.trans (g1.mono h2), by omega, putA_rel (h3.mono g1 g2) g4 _, by rw [put_defers]; exact h4, g3, h6.trans g5, h7⟩
      · obtain ⟨hp, hk⟩ := obs_iff (hy hq)
        refine (aopW_ok htt (envF_ok hE) e2 (cons hq hp) hW h3 h5).mono fun x w' ⟨ν, g1, g2, g3, g4, g5⟩ => ?_
        refine k _ _ _ _ hk ⟨ν, h1.trans (g1.mono h2), by omega, putA_rel (h3.mono g1 g2) g4 _, by rw [put_defers]; exact h4, g3, h6.trans g5, h7⟩
    · cases h
theorem gstep_okY {ops : Array Oper} {o : Oper} {A : List V} {H : Heap} {K : List V → Heap → Prop} (h : gstep tt E ops.toList o A H K) {a : Act} {w : World} (hs : St μ₀ n0 W w₀ A H a w) {K' : Act → World → Prop}
    (k : ∀ A' H' a' w', K A' H' → St μ₀ n0 W w₀ A' H' a' w' → K' a' w') : YStep P ops o K' a w := by
  unfold gstep at h
  obtain ⟨μ, h1, h2, h3, h4, h5, h6, h7⟩ := hs.out
  have hg := guard_ok (ops := ops.toList) (o := o) h3
  have et : ops.toList.toArray = ops := by simp
  have skip : ∀ {A' : List V}, relA μ H.length A' a.tmps → K (putA A' o.dst .n) H → Region.wanted o (yielded ops.toList.toArray a.tmps) = false → YStep P ops o K' a w := fun hA' hk hw => by
    rw [et] at hw
    refine ⟨fun h => (by rw [hw] at h; cases h), fun _ => k _ _ _ _ hk ⟨μ, h1, h2, putA_rel (v := V.n) (x := undef) hA' rfl _, by rw [put_defers]; exact h4, h5, h6, h7⟩⟩
  have go : ∀ {A' : List V}, relA μ H.length A' a.tmps → stepA tt E o A' H K → Region.wanted o (yielded ops.toList.toArray a.tmps) = true → YStep P ops o K' a w := fun hA' hk hw => by
    rw [et] at hw
    exact ⟨fun _ => step_okY htt hE hk (a := a) (w := w) ⟨μ, h1, h2, hA', h4, h5, h6, h7⟩ k, fun h => (by rw [hw] at h; cases h)⟩
  split at h
  · rename_i hg'; rw [hg'] at hg; exact go h3 h hg
  · rename_i hg'; rw [hg'] at hg; exact skip h3 h hg
  · rename_i d t want hg'
    rw [hg'] at hg
    obtain ⟨hd, hw⟩ := hg
    obtain ⟨hT, hF⟩ := h
    cases ht : t () with
    | true =>
      have h := hT ht
      rw [ht] at hw
      cases want with
      | true => exact go (setB_rel h3 hd ht) h hw
      | false => exact skip (setB_rel h3 hd ht) h hw
    | false =>
      have h := hF ht
      rw [ht] at hw
      cases want with
      | false => exact go (setB_rel h3 hd ht) h hw
      | true => exact skip (setB_rel h3 hd ht) h hw
  · cases h
end
section
variable {P : Program} {c : Cfg} (htt : TtOk P c.tt) (hE : EnvOk P c.E) {μ₀ : Nat → Loc} {W : Nat → Prop} {w₀ : World} {ops : Array Oper}
include htt hE
theorem quietI_ok {H : Heap} : ∀ {I : List Nat} {A : List V} {K : List V → Prop}, quietI c ops H I A K → ∀ {a : Act} {w : World}, St μ₀ c.n0 W w₀ A H a w → ∃ A', K A' ∧ undoAll ops I (fun a w => St μ₀ c.n0 W w₀ A' H a w) a w
  | [], A, K, h, a, w, hs => ⟨A, h, hs⟩
  | i :: r, A, K, h, a, w, hs => by
    unfold quietI at h
    split at h
    · rename_i o ho
      split at h
      · unfold stepQ at h
        split at h
        · rename_i v p hop
          obtain ⟨hp, hk⟩ := obs_iff h
          obtain ⟨μ, h1, h2, h3, h4, h5, h6, h7⟩ := hs.out
          obtain ⟨x, w', hx, _⟩ := (aopQ_ok htt hE hop hp (h7.step h6) h3 h5).exists
          obtain ⟨A', hA', hu⟩ := quietI_ok hk (a := a.put o.dst x) (w := w) ⟨μ, h1, h2, putA_rel h3 hx _, by rw [put_defers]; exact h4, h5, h6, h7⟩
          exact ⟨A', hA', x, by simpa [ho] using hu⟩
        · cases h
      · exact h.elim
    · exact h.elim
theorem stabA_ok {H : Heap} {A : List V} : ∀ {I : List Nat} {K : Unit → Prop}, stabA c ops H A I K → K () ∧ Stab P ops I (fun a w => St μ₀ c.n0 W w₀ A H a w)
  | [], K, h => ⟨h, fun i hi => by cases hi⟩
  | i :: r, K, h => by
    unfold stabA at h
    split at h
    · rename_i o ho
      split at h
      · rename_i hg
        split at h
        · rename_i v p hop
          obtain ⟨hp, hv, hk⟩ := obs_iff h
          obtain ⟨h1, h2⟩ := stabA_ok hk
          refine ⟨h1, fun j hj => ?_⟩
          rcases List.mem_cons.1 hj with rfl | hj
          · refine ⟨o, ho, fun a w hs => ?_⟩
            obtain ⟨μ, g1, g2, g3, g4, g5, g6, g7⟩ := hs.out
            have hgo := guard_ok (ops := ops.toList) (o := o) g3
            rw [hg] at hgo
            have hgo : Region.wanted o (yielded ops a.tmps) = true := by
              have hgo : Region.wanted o (yielded ops.toList.toArray a.tmps) = true := hgo
              simpa using hgo
            have eA : putA A o.dst v = A := by
              cases hd : o.dst with
              | none => rfl
              | some d => rw [hd] at hv; exact set_self hv
            refine ⟨fun _ => ?_, fun h => by rw [hgo] at h; cases h⟩
            refine (aopQ_ok htt hE hop hp (g7.step g6) g3 g5).mono fun x w' ⟨hx, hw'⟩ => ?_
            have := putA_rel g3 hx o.dst
            rw [eA] at this
            exact ⟨μ, g1, g2, this, by rw [put_defers]; exact g4, g5.quiet hw', g6.trans (hw'.mono fun _ _ h => h.elim), g7⟩
          · exact h2 j hj
        · cases h
      · cases h
    · exact h.elim
theorem stab_any {I : List Nat} {G : List V → Heap → Prop} (hI : ∀ i ∈ I, (ops[i]?).isSome = true) (h : ∀ A H, G A H → Stab P ops I (fun a w => St μ₀ c.n0 W w₀ A H a w)) : Stab P ops I (fun a w => ∃ A H, G A H ∧ St μ₀ c.n0 W w₀ A H a w) := fun i hi => by
  obtain ⟨o, ho⟩ := Option.isSome_iff_exists.1 (hI i hi)
  refine ⟨o, ho, fun a w ⟨A, H, hG, hs⟩ => ?_⟩
  obtain ⟨o', ho', hy⟩ := h A H hG i hi
  rw [ho] at ho'; cases ho'
  exact (hy a w hs).mono fun a w r => ⟨A, H, hG, r⟩
theorem ordI_ok {I : List Nat} (hI : ∀ i ∈ I, (ops[i]?).isSome = true) {K : List V → Heap → Prop} : ∀ {f : Nat} {listed : Array Bool}, SemI P ops I (fun a w => ∃ A H, K A H ∧ St μ₀ c.n0 W w₀ A H a w) f listed (fun a w => ∃ A H, ordI c ops I f listed A H K ∧ St μ₀ c.n0 W w₀ A H a w)
  | 0, listed => by
    have hstab : Stab P ops I (fun a w => ∃ A H, ordI c ops I 0 listed A H K ∧ St μ₀ c.n0 W w₀ A H a w) := stab_any htt hE hI fun A H hG => (stabA_ok htt hE hG).2
    refine ⟨hstab, fun a w ⟨A, H, hG, hs⟩ => ?_⟩
    have := (stabA_ok (P := P) (μ₀ := μ₀) (W := W) (w₀ := w₀) htt hE hG).1
    cases hr : Region.ready .any ops listed with
    | nil => rw [hr] at this; exact ⟨rfl, A, H, this, hs⟩
    | cons x l => rw [hr] at this; exact this.elim
  | f + 1, listed => by
    have hstab : Stab P ops I (fun a w => ∃ A H, ordI c ops I (f + 1) listed A H K ∧ St μ₀ c.n0 W w₀ A H a w) := stab_any htt hE hI fun A H hG => (stabA_ok htt hE hG).2
    refine ⟨hstab, fun hr a w ⟨A, H, hG, hs⟩ => ⟨A, H, ?_, hs⟩, fun j hj => ?_⟩
    · have := (stabA_ok (P := P) (μ₀ := μ₀) (W := W) (w₀ := w₀) htt hE hG).1
      rw [hr] at this; exact this
    · obtain ⟨_, o, ho, _⟩ := mem_ready.1 hj
      refine ⟨o, _, ho, fun a w ⟨A, H, hG, hs⟩ => ?_, ordI_ok hI (f := f)⟩
      have := (stabA_ok (P := P) (μ₀ := μ₀) (W := W) (w₀ := w₀) htt hE hG).1
      cases hr : Region.ready .any ops listed with
      | nil => rw [hr] at hj; cases hj
      | cons x l =>
        rw [hr] at this hj
        have := allP_mem this j hj
        rw [ho] at this
        exact gstep_okY htt hE this hs fun A' H' a' w' hk hs' => ⟨A', H', hk, hs'⟩
end
end Go.Proofs.YteifneielgnniaaGreatDoor.Sh
namespace Go.Proofs.YteifneielgnniaaGreatDoor.Sh
open Go Ieee
/-! ## generalizing a state -/
theorem bltN_lt {a b : Nat} (h : Nat.blt a b = true) : a < b := by
  have : Nat.ble (a + 1) b = true := h
  exact Nat.le_of_ble_eq_true this
theorem beqL_eq : ∀ {a b : List Nat}, beqL a b = true → a = b
  | [], [], _ => rfl
  | x :: a, y :: b, h => by
    unfold beqL at h
    split at h
    · rename_i hb; rw [beqN_eq hb, beqL_eq h]
    · cases h
  | [], _ :: _, h => by simp [beqL] at h
  | _ :: _, [], h => by simp [beqL] at h
theorem genC_ok {N M : Nat} {x y : C} {p : Obl} (h : genC N x y = some p) (hp : holds p) {μ : Nat → Loc} {v : Value} (r : relC μ M x v) : relC μ N y v := by
  unfold genC at h
  split at h
  · cases h; have := hp.one; exact r.trans (by rw [this])
  · split at h
    · rename_i hk; have hk := beqK_eq hk; subst hk; cases h; have := hp.one; exact r.trans (by rw [this])
    · cases h
  · split at h
    · rename_i hk; have hk := beqF_eq hk; subst hk; cases h; have := hp.one; obtain ⟨z, e, r⟩ := r; exact ⟨z, e, by rw [← this]; exact r⟩
    · cases h
  · split at h
    · rename_i hk; have hk := beqF_eq hk; subst hk; cases h
      have h1 := hp _ (List.mem_cons_self ..)
      have h2 := hp _ (List.mem_cons_of_mem _ (List.mem_cons_self ..))
      obtain ⟨z, z', e, r, r'⟩ := r; exact ⟨z, z', e, by rw [← h1]; exact r, by rw [← h2]; exact r'⟩
    · cases h
  · cases h; have := hp.one; exact r.trans (by rw [this])
  · split at h
    · rename_i hb hl; cases h; have := hp.one; have hb := beqN_eq hb; subst hb
      exact ⟨bltN_lt hl, by rw [← this]; exact r.2⟩
    · cases h
  · cases h; exact r
  · split at h
    · rename_i hb hl; cases h
      have h1 := hp _ (List.mem_cons_self ..)
      have h2 := hp _ (List.mem_cons_of_mem _ (List.mem_cons_self ..))
      have hb := beqN_eq hb; subst hb
      obtain ⟨_, cap, a, r1, r2, r3, r4⟩ := r
      exact ⟨bltN_lt hl, cap, a, by rw [← h2]; exact r1, by rw [← h1]; exact r2, by rw [← h1]; exact r3, by rw [← h2]; exact r4⟩
    · cases h
  · cases h; exact r
  · split at h
    · rename_i hb hl ha; cases h
      have hb := beqN_eq hb; subst hb
      have hl := beqL_eq hl; subst hl
      exact ⟨fun b hb => bltN_lt (List.all_eq_true.1 ha b hb), r.2⟩
    · cases h
  · cases h; exact r
  · cases h
theorem genCs_ok {N M : Nat} : ∀ {xs ys : List C} {p : Obl}, genCs N xs ys = some p → holds p → ∀ {μ : Nat → Loc} {vs : List Value}, relL (relC μ M) xs vs → relL (relC μ N) ys vs
  | [], [], _, _, _, _, vs, r => by cases vs with | nil => trivial | cons _ _ => exact r.elim
  | x :: xs, y :: ys, p, h, hp, μ, vs, r => by
    unfold genCs at h
    split at h
    · rename_i o o' h1 h2
      cases h
      cases vs with
      | nil => exact r.elim
      | cons v vs => exact ⟨genC_ok h1 hp.app.1 r.1, genCs_ok h2 hp.app.2 r.2⟩
    · cases h
  | [], _ :: _, _, h, _, _, _, _ => by simp [genCs] at h
  | _ :: _, [], _, h, _, _, _, _ => by simp [genCs] at h
theorem genCs_get {N : Nat} : ∀ {xs ys : List C} {p : Obl}, genCs N xs ys = some p → holds p → ∀ {j : Nat} {y : C}, ys[j]? = some y → ∃ x, xs[j]? = some x ∧ ∀ (μ : Nat → Loc) (M : Nat) (v : Value), relC μ M x v → relC μ N y v
  | [], [], _, _, _, j, y, h => by simp at h
  | x :: xs, y :: ys, p, h, hp, j, z, hz => by
    unfold genCs at h
    split at h
    · rename_i o o' h1 h2
      cases h
      cases j with
      | zero => simp at hz; subst hz; exact ⟨x, rfl, fun μ M v r => genC_ok h1 hp.app.1 r⟩
      | succ j => simpa using genCs_get h2 hp.app.2 (by simpa using hz)
    · cases h
  | [], _ :: _, _, h, _, _, _, _ => by simp [genCs] at h
  | _ :: _, [], _, h, _, _, _, _ => by simp [genCs] at h
theorem genV1_ok {N M : Nat} {x y : V} {p : Obl} (h : genV1 N x y = some p) (hp : holds p) {μ : Nat → Loc} {v : Value} (r : relV1 μ M x v) : relV1 μ N y v := by
  unfold genV1 at h
  split at h
  · trivial
  · exact r
  · exact genC_ok h hp r
  · obtain ⟨vs, e, r⟩ := r; exact ⟨vs, e, genCs_ok h hp r⟩
  · cases h
theorem genV1s_ok {N M : Nat} : ∀ {xs ys : List V} {p : Obl}, genV1s N xs ys = some p → holds p → ∀ {μ : Nat → Loc} {vs : List Value}, relL (relV1 μ M) xs vs → relL (relV1 μ N) ys vs
  | [], [], _, _, _, _, vs, r => by cases vs with | nil => trivial | cons _ _ => exact r.elim
  | x :: xs, y :: ys, p, h, hp, μ, vs, r => by
    unfold genV1s at h
    split at h
    · rename_i o o' h1 h2
      cases h
      cases vs with
      | nil => exact r.elim
      | cons v vs => exact ⟨genV1_ok h1 hp.app.1 r.1, genV1s_ok h2 hp.app.2 r.2⟩
    · cases h
  | [], _ :: _, _, h, _, _, _, _ => by simp [genV1s] at h
  | _ :: _, [], _, h, _, _, _, _ => by simp [genV1s] at h
theorem genV_ok {N M : Nat} {x y : V} {p : Obl} (h : genV N x y = some p) (hp : holds p) {μ : Nat → Loc} {v : Value} (r : relV μ M x v) : relV μ N y v := by
  unfold genV at h
  split at h
  · obtain ⟨vs, e, r⟩ := r; exact ⟨vs, e, genV1s_ok h hp r⟩
  · rename_i hn
    cases y with
    | u => trivial
    | t b =>
      cases x with
      | t a => exact absurd rfl (hn _ _ rfl)
      | _ => simp [genV1] at h
    | n => cases x <;> simp [genV1] at h; exact r
    | c y => cases x <;> first | (simp [genV1] at h; done) | skip
             exact genV1_ok h hp (x := .c _) r
    | a y => cases x <;> first | (simp [genV1] at h; done) | skip
             exact genV1_ok h hp (x := .a _) r
theorem genA_ok {N M : Nat} : ∀ {xs ys : List V} {p : Obl}, genA N xs ys = some p → holds p → ∀ {μ : Nat → Loc} {vs : List Value}, relL (relV μ M) xs vs → relL (relV μ N) ys vs
  | [], [], _, _, _, _, vs, r => by cases vs with | nil => trivial | cons _ _ => exact r.elim
  | x :: xs, y :: ys, p, h, hp, μ, vs, r => by
    unfold genA at h
    split at h
    · rename_i o o' h1 h2
      cases h
      cases vs with
      | nil => exact r.elim
      | cons v vs => exact ⟨genV_ok h1 hp.app.1 r.1, genA_ok h2 hp.app.2 r.2⟩
    · cases h
  | [], _ :: _, _, h, _, _, _, _ => by simp [genA] at h
  | _ :: _, [], _, h, _, _, _, _ => by simp [genA] at h
theorem genCells_ok {N M : Nat} {x y : Cells} {p : Obl} (h : genCells N x y = some p) (hp : holds p) : ∀ j z, y.at j = some z → ∃ u, x.at j = some u ∧ ∀ (μ : Nat → Loc) (v : Value), relC μ M u v → relC μ N z v := by
  have scalar : ∀ {z : C}, (∃ k e, z = .f k e) ∨ (∃ k a b, z = .z k a b) ∨ (∃ k e, z = .i k e) ∨ (∃ e, z = .s e) → ∀ (μ : Nat → Loc) (v : Value), relC μ M z v → relC μ N z v := fun {z} hz μ v r => by
    rcases hz with ⟨k, e, rfl⟩ | ⟨k, a, b, rfl⟩ | ⟨k, e, rfl⟩ | ⟨e, rfl⟩ <;> exact r
  have via : ∀ {c : Cells}, CellsLe x c → c = y → (∀ j z, y.at j = some z → (∃ k e, z = .f k e) ∨ (∃ k a b, z = .z k a b) ∨ (∃ k e, z = .i k e) ∨ (∃ e, z = .s e)) → ∀ j z, y.at j = some z → ∃ u, x.at j = some u ∧ ∀ (μ : Nat → Loc) (v : Value), relC μ M u v → relC μ N z v := fun {c} hl hc hz j z hj => by
    subst hc
    obtain ⟨u, hu, hr⟩ := hl j z hj
    exact ⟨u, hu, fun μ v r => scalar (hz j z hj) μ v (hr μ M v r)⟩
  unfold genCells at h
  split at h
  · split at h
    · intro j z hz
      obtain ⟨u, h1, h2⟩ := genCs_get h hp hz
      exact ⟨u, h1, fun μ v r => h2 μ M v r⟩
    · cases h
  · rename_i b
    split at h
    · rename_i a ha
      cases h
      refine via (toFl_le ha).1 ?_ fun j z hz => ?_
      · have : a () = b () := hp.one
        exact congrArg Cells.fl (funext fun _ => this)
      · obtain ⟨e, _, rfl⟩ := Option.map_eq_some_iff.1 hz; exact .inl ⟨_, _, rfl⟩
    · cases h
  · rename_i b
    split at h
    · rename_i a ha
      cases h
      refine via (toCx_le ha).1 ?_ fun j z hz => ?_
      · have : a () = b () := hp.one
        exact congrArg Cells.cx (funext fun _ => this)
      · obtain ⟨e, _, rfl⟩ := Option.map_eq_some_iff.1 hz; exact .inr (.inl ⟨_, _, _, rfl⟩)
    · cases h
  · rename_i b
    split at h
    · rename_i a ha
      cases h
      refine via (toSx_le ha).1 ?_ fun j z hz => ?_
      · have : a () = b () := hp.one
        exact congrArg Cells.sx (funext fun _ => this)
      · obtain ⟨e, _, rfl⟩ := Option.map_eq_some_iff.1 hz; exact .inr (.inr (.inr ⟨_, rfl⟩))
    · cases h
  · rename_i k b
    split at h
    · rename_i a ha
      cases h
      refine via (toIt_le ha).1 ?_ fun j z hz => ?_
      · have : a () = b () := hp.one
        exact congrArg (Cells.it k) (funext fun _ => this)
      · obtain ⟨e, _, rfl⟩ := Option.map_eq_some_iff.1 hz; exact .inr (.inr (.inl ⟨_, _, rfl⟩))
    · cases h
theorem genH_get {N : Nat} : ∀ {H H' : Heap} {p : Obl}, genH N H H' = some p → holds p → ∀ {i : Nat} {D : Blk}, H'[i]? = some (some D) → ∃ B q, H[i]? = some (some B) ∧ B.rw = D.rw ∧ B.es = D.es ∧ genCells N B.cells D.cells = some q ∧ holds q
  | _, [], _, _, _, i, D, h => by simp at h
  | x :: r, y :: q, p, h, hp, i, D, hD => by
    unfold genH at h
    split at h
    · rename_i o o' h1 h2
      cases h
      cases i with
      | zero =>
        simp at hD
        subst hD
        unfold genBlk at h1
        split at h1
        · cases ‹some _ = none›
        · rename_i B D heq
          cases heq
          split at h1
          · rename_i hb he
            exact ⟨_, _, rfl, beqB_eq hb, beqN_eq he, h1, hp.app.1⟩
          · cases h1
        · cases h1
      | succ i => simpa using genH_get h2 hp.app.2 (by simpa using hD)
    · cases h
  | [], _ :: _, _, h, _, _, _, _ => by simp [genH] at h
theorem gen_ok {n0 : Nat} {A A' : List V} {H H' : Heap} {p : Obl} (h : gen n0 A H A' H' = some p) (hp : holds p) {μ₀ : Nat → Loc} {W : Nat → Prop} {w₀ : World} {a : Act} {w : World} (hs : St μ₀ n0 W w₀ A H a w) : St μ₀ n0 W w₀ A' H' a w := by
  unfold gen at h
  split at h
  · rename_i o o' hl hA hH
    cases h
    obtain ⟨μ, h1, h2, h3, h4, h5, h6, h7⟩ := hs.out
    refine ⟨μ, h1, Nat.le_of_ble_eq_true hl, genA_ok hA hp.app.1 h3, h4, ⟨fun i D hD => ?_, fun i j D D' hi hj hrw hne => ?_⟩, h6, h7⟩
    · obtain ⟨B, q, hB, e1, e2, hg, hq⟩ := genH_get hH hp.app.2 hD
      obtain ⟨c, t, lo, hi, g1, g2, g3, g4, g5⟩ := (h5.blk i B hB).out
      refine ⟨c, t, lo, hi, g1, fun j x hx => ?_, e1 ▸ g3, e2 ▸ g4, e2 ▸ g5⟩
      obtain ⟨u, hu, hr⟩ := genCells_ok (M := H.length) hg hq j x hx
      obtain ⟨v, hv, r⟩ := g2 j u hu
      exact ⟨v, hv, hr _ _ r⟩
    · obtain ⟨B, q, hB, e1, _⟩ := genH_get hH hp.app.2 hi
      obtain ⟨B', q', hB', _⟩ := genH_get hH hp.app.2 hj
      exact h5.sep i j B B' hB hB' (e1 ▸ hrw) hne
  · cases h
section
variable {ν : Nat → Loc} {N : Nat} {sel : List Nat} {base : Nat}
theorem unbackC {x : C} {v : Value} (h : relC ν N (backC sel base x) v) (hl : ltN sel.length (namesC x) = true) : relC (fun b => ν (backB sel base b)) sel.length x v := by
  have hl : ∀ b ∈ namesC x, b < sel.length := fun b hb => blt_lt (List.all_eq_true.1 hl b hb)
  cases x with
  | p b o => exact ⟨hl b (by simp [namesC]), h.2⟩
  | sl b o n =>
    obtain ⟨_, cap, a, h⟩ := h
    exact ⟨hl b (by simp [namesC]), cap, a, h⟩
  | fn g caps =>
    refine ⟨fun b hb => hl b hb, ?_⟩
    have h := h.2
    rw [List.map_map] at h
    exact h
  | _ => exact h
theorem ltN_app {n : Nat} {a b : List Nat} (h : ltN n (a ++ b) = true) : ltN n a = true ∧ ltN n b = true := by
  simpa [ltN, List.all_append] using h
theorem unbackCs : ∀ {xs : List C} {vs : List Value}, relL (relC ν N) (xs.map (backC sel base)) vs → ltN sel.length (names xs) = true → relL (relC (fun b => ν (backB sel base b)) sel.length) xs vs
  | [], [], _, _ => trivial
  | _ :: _, _ :: _, h, hl => ⟨unbackC h.1 (ltN_app hl).1, unbackCs h.2 (ltN_app hl).2⟩
  | [], _ :: _, h, _ => h.elim
  | _ :: _, [], h, _ => h.elim
theorem unbackV1 {x : V} {v : Value} (h : relV1 ν N (backV1 sel base x) v) (hl : ltV1 sel.length x = true) : relV1 (fun b => ν (backB sel base b)) sel.length x v := by
  cases x with
  | c x => exact unbackC h hl
  | a cs => obtain ⟨vs, e, r⟩ := h; exact ⟨vs, e, unbackCs r hl⟩
  | t vs => cases hl
  | u => trivial
  | n => exact h
theorem unbackV1s : ∀ {xs : List V} {vs : List Value}, relL (relV1 ν N) (xs.map (backV1 sel base)) vs → xs.all (ltV1 sel.length) = true → relL (relV1 (fun b => ν (backB sel base b)) sel.length) xs vs
  | [], [], _, _ => trivial
  | _ :: _, _ :: _, h, hl => by
    simp only [List.all_cons, Bool.and_eq_true] at hl
    exact ⟨unbackV1 h.1 hl.1, unbackV1s h.2 hl.2⟩
  | [], _ :: _, h, _ => h.elim
  | _ :: _, [], h, _ => h.elim
theorem unbackV {x : V} {v : Value} (h : relV ν N (backV sel base x) v) (hl : ltV sel.length x = true) : relV (fun b => ν (backB sel base b)) sel.length x v := by
  cases x with
  | t vs => obtain ⟨ws, e, r⟩ := h; exact ⟨ws, e, unbackV1s r hl⟩
  | c x => exact unbackV1 (x := .c x) h hl
  | a x => exact unbackV1 (x := .a x) h hl
  | u => trivial
  | n => exact h
end
theorem finH_get {N : Nat} {Hf : Heap} {sel : List Nat} : ∀ {l : List Nat} {H' : Heap} {p : Obl}, finH N Hf sel l H' = some p → holds p → l.length = H'.length ∧ ∀ (i : Nat) (D : Blk), H'[i]? = some (some D) →
    ∃ (b : Nat) (B : Blk) (q : Obl), l[i]? = some b ∧ Hf[b]? = some (some B) ∧ B.rw = D.rw ∧ B.es = D.es ∧ ltN sel.length D.cells.names = true ∧ genCells N B.cells (backCells sel 0 D.cells) = some q ∧ holds q
  | [], [], _, _, _ => ⟨rfl, fun i D h => by simp at h⟩
  | b :: r, none :: q, p, h, hp => by
    obtain ⟨h1, h2⟩ := finH_get (l := r) (H' := q) h hp
    refine ⟨by simp [h1], fun i D hD => ?_⟩
    cases i with
    | zero => simp at hD
    | succ i => simpa using h2 i D (by simpa using hD)
  | b :: r, some D :: q, p, h, hp => by
    unfold finH at h
    split at h
    · rename_i o o' hl hg hr
      cases h
      obtain ⟨h1, h2⟩ := finH_get hr hp.app.2
      refine ⟨by simp [h1], fun i D' hD => ?_⟩
      cases i with
      | succ i => simpa using h2 i D' (by simpa using hD)
      | zero =>
        simp at hD
        subst hD
        unfold genBlk at hg
        split at hg
        · rename_i heq; simp [backBlk] at heq
        · rename_i B D' he heq
          simp only [backBlk, Option.some.injEq] at heq
          subst heq
          split at hg
          · rename_i hb hes
            refine ⟨b, B, _, rfl, ?_, beqB_eq hb, beqN_eq hes, hl, hg, hp.app.1⟩
            rw [List.getD_eq_getElem?_getD] at he
            cases hx : Hf[b]? with
            | none => rw [hx] at he; simp at he
            | some z => rw [hx] at he; simp at he; rw [he]
          · cases hg
        · cases hg
    · cases h
  | [], _ :: _, _, h, _ => by simp [finH] at h
  | _ :: _, [], _, h, _ => by simp [finH] at h
theorem backCells_to {sel : List Nat} {base : Nat} {c : Cells} {j : Nat} {x : C} (h : c.at j = some x) : (backCells sel base c).at j = some (backC sel base x) := by
  cases c with
  | lit l =>
    have h : l[j]? = some x := h
    simp [backCells, Cells.at, h]
  | fl l => obtain ⟨e, he, rfl⟩ := Option.map_eq_some_iff.1 h; exact h
  | cx l => obtain ⟨e, he, rfl⟩ := Option.map_eq_some_iff.1 h; exact h
  | sx l => obtain ⟨e, he, rfl⟩ := Option.map_eq_some_iff.1 h; exact h
  | it k l => obtain ⟨e, he, rfl⟩ := Option.map_eq_some_iff.1 h; exact h
theorem cells_lt {n : Nat} {c : Cells} {j : Nat} {x : C} (h : c.at j = some x) (hl : ltN n c.names = true) : ltN n (namesC x) = true := by
  cases c with
  | lit l => exact List.all_eq_true.2 fun b hb => List.all_eq_true.1 hl b (names_mem (List.mem_of_getElem? h) b hb)
  | fl l => obtain ⟨e, he, rfl⟩ := Option.map_eq_some_iff.1 h; rfl
  | cx l => obtain ⟨e, he, rfl⟩ := Option.map_eq_some_iff.1 h; rfl
  | sx l => obtain ⟨e, he, rfl⟩ := Option.map_eq_some_iff.1 h; rfl
  | it k l => obtain ⟨e, he, rfl⟩ := Option.map_eq_some_iff.1 h; rfl
theorem unbackA {ν : Nat → Loc} {N : Nat} {sel : List Nat} {base : Nat} : ∀ {A : List V} {vs : List Value}, relL (relV ν N) (A.map (backV sel base)) vs → A.all (ltV sel.length) = true → relL (relV (fun b => ν (backB sel base b)) sel.length) A vs
  | [], [], _, _ => trivial
  | x :: xs, v :: vs, h, hl => by
    simp only [List.all_cons, Bool.and_eq_true] at hl
    exact ⟨unbackV h.1 hl.1, unbackA h.2 hl.2⟩
  | [], _ :: _, h, _ => h.elim
  | _ :: _, [], h, _ => h.elim
theorem ren_ok {n0 : Nat} {ρ : List Nat} {Hf H' : Heap} {sel : List Nat} (hsel : List.range n0 ++ ρ = sel) {p : Obl} (hn : nodupB sel = true) (hf : finH Hf.length Hf sel sel H' = some p) (hp : holds p) {μ ν : Nat → Loc} {W : Nat → Prop} {w : World} (ha : agree n0 μ ν) (hH : HRel ν W Hf w) :
    agree n0 μ (fun b => ν (backB sel 0 b)) ∧ n0 ≤ H'.length ∧ sel.length = H'.length ∧ HRel (fun b => ν (backB sel 0 b)) W H' w := by
  obtain ⟨hlen, hget⟩ := finH_get hf hp
  have hb : ∀ {i b : Nat}, sel[i]? = some b → backB sel 0 i = b := fun {i b} hi => by
    unfold backB
    have : Nat.blt i sel.length = true := by simpa [Nat.blt_eq] using lt_of_get hi
    rw [this]
    simp [List.getD_eq_getElem?_getD, hi]
  have hlen0 : n0 ≤ sel.length := by rw [← hsel]; simp
  refine ⟨fun i hi => ?_, by omega, hlen, ⟨fun i D hD => ?_, fun i j B D hB hD hrw hne => ?_⟩⟩
  · have : sel[i]? = some i := by rw [← hsel, List.getElem?_append_left (by simpa using hi)]; simp [hi]
    show ν (backB sel 0 i) = μ i
    rw [hb this, ha i hi]
  · obtain ⟨b, B, q, g1, g2, g3, g4, g5, g6, g7⟩ := hget i D hD
    show BlkRel _ _ W w (ν (backB sel 0 i)) D
    rw [hb g1]
    obtain ⟨c, t, lo, hi, k1, k2, k3, k4, k5⟩ := (hH.blk b B g2).out
    refine ⟨c, t, lo, hi, k1, fun j z hz => ?_, g3 ▸ k3, g4 ▸ k4, g4 ▸ k5⟩
    obtain ⟨u, hu, hr⟩ := genCells_ok (M := Hf.length) g6 g7 j _ (backCells_to hz)
    obtain ⟨y, hy, r⟩ := k2 j u hu
    exact ⟨y, hy, hlen ▸ unbackC (hr _ _ r) (cells_lt hz g5)⟩
  · obtain ⟨b, B', q, g1, g2, g3, _⟩ := hget i B hB
    obtain ⟨d, D', q', k1, k2, _⟩ := hget j D hD
    show (ν (backB sel 0 i)).blk ≠ (ν (backB sel 0 j)).blk
    rw [hb g1, hb k1]
    exact hH.sep b d B' D' g2 k2 (g3 ▸ hrw) (nodupB_ne hn g1 k1 hne)
theorem genR_ok {n0 : Nat} {ρ : List Nat} {A A' : List V} {H H' : Heap} {p : Obl} (h : genR n0 ρ A H A' H' = some p) (hp : holds p) {μ₀ : Nat → Loc} {W : Nat → Prop} {w₀ : World} {a : Act} {w : World} (hs : St μ₀ n0 W w₀ A H a w) : St μ₀ n0 W w₀ A' H' a w := by
  unfold genR at h
  revert h
  generalize hsel : List.range n0 ++ ρ = sel
  intro h
  dsimp only at h
  split at h
  · rename_i o o' hn hl hA hf
    cases h
    obtain ⟨μ, h1, h2, h3, h4, h5, h6, h7⟩ := hs.out
    obtain ⟨k1, k2, k3, k4⟩ := ren_ok hsel hn hf hp.app.2 h1 h5
    exact ⟨_, k1, k2, k3 ▸ unbackA (genA_ok hA hp.app.1 h3) hl, h4, k4, h6, h7⟩
  · cases h
/-! ## THE MACHINE IS SOUND -/
section
variable {P : Program} {c : Cfg} (hm : P.follows .mixedOrders = true) (htt : TtOk P c.tt) (hE : EnvOk P c.E) {μ₀ : Nat → Loc} {W : Nat → Prop} {w₀ : World}
include hm htt hE
theorem wpa_ok : ∀ {x : Code} {Q : Post} {A : List V} {H : Heap}, wpa c x Q A H → ∀ {a : Act} {w : World}, St μ₀ c.n0 W w₀ A H a w → ∀ {R : Exit → Act → World → Prop}, PostOk μ₀ c.n0 W w₀ Q R → x.wp P R a w := by
  intro x
  induction x with
  | skip => exact fun h _ _ hs _ hR => wp_skip (hR .nrm _ _ _ _ h hs)
  | label l => exact fun h _ _ hs _ hR => wp_label (hR .nrm _ _ _ _ h hs)
  | exit id => exact fun h _ _ hs _ hR => wp_exit (hR (.exit id) _ _ _ _ h hs)
  | ret => exact fun h _ _ hs _ hR => wp_ret (hR .ret _ _ _ _ h hs)
  | region id ops draws =>
    intro Q A H h a w hs R hR
    cases draws with
    | false =>
      refine wp_region_list ?_
      have := aops_ok (P := P) htt hE (id := ops.toList) h hs (R := R) fun A' H' a' w' hk hs' => hR .nrm _ _ _ _ hk hs'
      simpa using this
    | true =>
      have hs0 := hs
      obtain ⟨μ, h1, h2, h3, h4, h5, h6, h7⟩ := hs.out
      have hW : Wide W w := h7.step h6
      rcases h with ⟨hl, hk⟩ | ⟨n, hl, hk⟩ | hk | ⟨I, hl, hk⟩
      rotate_left
      · have e : ops = ops.toList.toArray := by simp
        rw [e]
        refine wp_region_tailM (C := Fr nowhere w) n hm (by rw [← e]; exact hl) (Fr.drewN nowhere w 1) (M := frames μ H.length A) ⟨h3, h4⟩ ?_
        exact aopsQ_ok (P := P) htt hE h5 hW (Q := fun a' => ∀ w', Fr nowhere w w' → wpList P ops.toList.toArray R (ops.toList.drop n) a' w') hk fun A' a' hk' ha' w' hw' =>
          aops_ok (P := P) htt hE (id := ops.toList) hk' (a := a') (w := w') ⟨μ, h1, h2, ha'.1, ha'.2, h5.quiet hw', h6.trans (hw'.mono fun _ _ h => h.elim), h7⟩ (R := R) fun A'' H'' a'' w'' hk'' hs'' => hR .nrm _ _ _ _ hk'' hs''
      · refine wp_region_any hm (ordA_ok (P := P) htt hE hk (a := a) (w := { w with drawn := w.drawn + 1 }) ?_ fun A' H' a' w' hk' hs' => hR .nrm _ _ _ _ hk' hs')
        have hd := Fr.drewN nowhere w 1
        exact ⟨μ, h1, h2, h3, h4, h5.quiet hd, h6.trans (hd.mono fun _ _ h => h.elim), h7⟩
      · simp only [pullsB, Bool.and_eq_true] at hl
        obtain ⟨⟨hsel, hle⟩, hB⟩ := hl
        have hd := Fr.drewN nowhere w 1
        have hs1 : St μ₀ c.n0 W w₀ A H a { w with drawn := w.drawn + 1 } := ⟨μ, h1, h2, h3, h4, h5.quiet hd, h6.trans (hd.mono fun _ _ h => h.elim), h7⟩
        obtain ⟨A', hA', hu⟩ := quietI_ok htt hE hk hs1
        have hI : ∀ i ∈ I, (ops[i]?).isSome = true := pullB_some hB
        have hord := ordI_ok htt hE hI (K := fun A' H' => Q .nrm A' H') (μ₀ := μ₀) (W := W) (w₀ := w₀) (f := ops.size - I.length) (listed := listAll I (Array.replicate ops.size false))
        have hsem := SemI.pulls (P := P) (Region.noSelect_spec hsel) I [] _ _ _ hB (hord.less (I' := I.reverse ++ []) (fun i hi => by simpa using hi))
        rw [Nat.sub_add_cancel (Nat.le_of_ble_eq_true hle)] at hsem
        refine wp_region_any hm (SemI.any (R := R) (fun a w ⟨A', H', hq, hs'⟩ => hR .nrm _ _ _ _ hq hs') hsem (undoAll_mono (fun a w hs' => ⟨A', H, hA', hs'⟩) hu))
      refine wp_region_M (C := Fr nowhere w) hm hl (Fr.drewN nowhere w 1) (M := frames μ H.length A) ⟨h3, h4⟩ ?_
      have := aopsQ_ok (P := P) htt hE h5 hW (Q := fun a' => ∀ w', Fr nowhere w w' → R .normal a' w') hk fun A' a' hk' ha' w' hw' =>
        hR .nrm _ _ _ _ hk' ⟨μ, h1, h2, ha'.1, ha'.2, h5.quiet hw', h6.trans (hw'.mono fun _ _ h => h.elim), h7⟩
      simpa using this
  | seq x y ihx ihy =>
    intro Q A H h a w hs R hR
    refine wp_seq (ihx h hs fun e A' H' a' w' hq hs' => ?_)
    cases e with
    | nrm => exact ihy hq hs' hR
    | exit i => exact hR (.exit i) _ _ _ _ hq hs'
    | ret => exact hR .ret _ _ _ _ hq hs'
  | cond x y z ihy ihz =>
    intro Q A H h a w hs R hR
    obtain ⟨μ, h1, h2, h3, h4, h5, h6, h7⟩ := hs.out
    have hx := av_rel h3 x
    simp only [wpa] at h
    split at h
    · rename_i t ht
      rw [ht] at hx
      have hx : a.eval x = .bool t := hx
      refine wp_cond hx ?_
      cases t with
      | true => exact ihy h hs hR
      | false => exact ihz h hs hR
    · rename_i t ht
      rw [ht] at hx
      have hx : a.eval x = .bool (t ()) := hx
      obtain ⟨hT, hF⟩ := h
      exact wp_cond_split hx (fun hb => ihy (hT hb) hs hR) (fun hb => ihz (hF hb) hs hR)
    · exact h.elim
  | block id x ih =>
    intro Q A H h a w hs R hR
    refine wp_block (ih h hs fun e A' H' a' w' hq hs' => ?_)
    cases e with
    | nrm => exact hR .nrm _ _ _ _ hq hs'
    | ret => exact hR .ret _ _ _ _ hq hs'
    | exit n =>
      show if n = id then R .normal a' w' else R (.exit n) a' w'
      have hq : match Nat.beq n id with | true => Q .nrm A' H' | false => Q (.exit n) A' H' := hq
      split at hq
      · rename_i hb; rw [if_pos (beqN_eq hb)]; exact hR .nrm _ _ _ _ hq hs'
      · rename_i hb
        rw [if_neg (fun e => by rw [e, Nat.beq_refl] at hb; cases hb)]
        exact hR (.exit n) _ _ _ _ hq hs'
  | loop x ih =>
    intro Q A H h a w hs R hR
    obtain ⟨n, hn⟩ := h
    refine wp_loop_rounds n ?_
    induction n generalizing A H a w with
    | zero => exact hn.elim
    | succ n ihn =>
      have post : PostOk μ₀ c.n0 W w₀ (fun e A'' H'' => match e with | .nrm => rounds c.n0 (fun Q' A' H' => wpa c x Q' A' H') Q n A'' H'' | .exit i => Q (.exit i) A'' H'' | .ret => Q .ret A'' H'') (Exit.then (Code.rounds P x R n) R) := by
        intro e A'' H'' a' w' hq hs'
        cases e with
        | nrm => exact ihn hs' hq
        | exit i => exact hR (.exit i) _ _ _ _ hq hs'
        | ret => exact hR .ret _ _ _ _ hq hs'
      cases hn with
      | same hk => exact ih hk hs post
      | mk A' H' hg =>
        split at hg
        · rename_i o ho
          obtain ⟨hp, hk⟩ := obs_iff hg
          exact ih hk (gen_ok ho hp hs) post
        · exact hg.elim
      | ren ρ A' H' hg =>
        split at hg
        · rename_i o ho
          obtain ⟨hp, hk⟩ := obs_iff hg
          exact ih hk (genR_ok ho hp hs) post
        · exact hg.elim
  | _ => exact fun h => h.elim
end
end Go.Proofs.YteifneielgnniaaGreatDoor.Sh
namespace Go.Proofs.YteifneielgnniaaGreatDoor.Sh
open Go Ieee
/-! ## functions -/
def ares (tt : TT) (A : List V) (H : Heap) : List ResultVar → Option (List V × Obl)
  | [] => some ([], [])
  | .tmp t :: r => match ares tt A H r with
    | some (vs, p) => some (av A (.tmp t) :: vs, p)
    | none => none
  | .cell a t :: r => match ttGet tt t, av A (.tmp a) with
    | some ti, .c (.p b off) => match aload ti H b off, ares tt A H r with
      | some (v, p), some (vs, q) => some (v :: vs, p ++ q)
      | _, _ => none
    | _, _ => none
def isT : V → Bool
  | .t _ => true
  | _ => false
def tup : List V → Option V
  | [v] => some v
  | vs => match vs.any isT with | true => none | false => some (.t vs)
def namesV : V → List Nat
  | .c x => namesC x
  | .a cs => names cs
  | .t vs => match namesVs vs with | some q => q | none => []
  | _ => []
def pick (n0 : Nat) (l : List Nat) : List Nat := dedupe (l.filter (Nat.ble n0)) []
/-- the new blocks that a result reaches -/
def finRho (n0 : Nat) (v : V) (H : Heap) : List Nat :=
  let n1 := pick n0 (namesV v)
  dedupe ((blkNames H n1).filter (Nat.ble n0)) n1
/-- the end of a function: what it hands back, and what it leaves, is what is told -/
def finQ (n0 : Nat) (v : V) (Hf : Heap) (v' : V) (H' : Heap) : Option Obl :=
  let sel := List.range n0 ++ finRho n0 v Hf
  match nodupB sel, ltV sel.length v', genV Hf.length v (backV sel 0 v'), finH Hf.length Hf sel sel H' with
  | true, true, some o, some o' => some (o ++ o')
  | _, _, _, _ => none
def fin (tt : TT) (rs : List ResultVar) (n0 : Nat) (v' : V) (H' : Heap) (A : List V) (Hf : Heap) : Prop :=
  match ares tt A Hf rs with
  | none => False
  | some (vs, p) => match tup vs with
    | none => False
    | some v => match finQ n0 v Hf v' H' with
      | none => False
      | some q => obs (p ++ q) fun _ => True
def finE (tt : TT) (rs : List ResultVar) (n0 : Nat) (v' : V) (H' : Heap) : Post
  | .nrm, A, Hf => fin tt rs n0 v' H' A Hf
  | .ret, A, Hf => fin tt rs n0 v' H' A Hf
  | .exit _, _, _ => False
theorem finQ_ok {n0 : Nat} {v v' : V} {Hf H' : Heap} {p : Obl} (h : finQ n0 v Hf v' H' = some p) (hp : holds p) {μ ν : Nat → Loc} {W : Nat → Prop} {w : World} {x : Value} (ha : agree n0 μ ν) (hH : HRel ν W Hf w) (hv : relV ν Hf.length v x) :
    ∃ ρ, agree n0 μ ρ ∧ n0 ≤ H'.length ∧ HRel ρ W H' w ∧ relV ρ H'.length v' x := by
  unfold finQ at h
  revert h
  generalize hsel : List.range n0 ++ finRho n0 v Hf = sel
  intro h
  dsimp only at h
  split at h
  · rename_i o o' hn hl hg hf
    cases h
    obtain ⟨k1, k2, k3, k4⟩ := ren_ok hsel hn hf hp.app.2 ha hH
    exact ⟨_, k1, k2, k4, k3 ▸ unbackV (genV_ok hg hp.app.1 hv) hl⟩
  · cases h
theorem ares_ok {P : Program} {tt : TT} (htt : TtOk P tt) {A : List V} {H : Heap} {μ : Nat → Loc} {W : Nat → Prop} {w : World} {a : Act} (hA : relA μ H.length A a.tmps) (hH : HRel μ W H w) :
    ∀ {rs : List ResultVar} {vs : List V} {p : Obl}, ares tt A H rs = some (vs, p) → holds p →
    ∃ xs : List Value, Sem.run P (rs.mapM fun r : ResultVar => match r with | .tmp t => (pure (a.tmps.getD t undef) : Sem Value) | .cell d t => do loadVar t (← asAddr (a.tmps.getD d undef))) w = .ok xs w ∧ relL (relV μ H.length) vs xs
  | [], vs, p, h, _ => by
    simp only [ares, Option.some.injEq, Prod.mk.injEq] at h
    obtain ⟨rfl, rfl⟩ := h
    exact ⟨[], rfl, trivial⟩
  | .tmp t :: r, vs, p, h, hp => by
    unfold ares at h
    split at h
    · rename_i vs' p' h'
      cases h
      obtain ⟨xs, h1, h2⟩ := ares_ok htt hA hH h' hp
      refine ⟨a.tmps.getD t undef :: xs, ?_, av_rel hA (.tmp t), h2⟩
      rw [List.mapM_cons]
      simp only [Sem.run_bind, Sem.run_pure, Result.andThen_ok, h1]
    · cases h
  | .cell d t :: r, vs, p, h, hp => by
    unfold ares at h
    split at h
    · rename_i ti b off ht hx
      split at h
      · rename_i v p1 vs' p2 hv h'
        cases h
        obtain ⟨xs, h1, h2⟩ := ares_ok htt hA hH h' hp.app.2
        obtain ⟨v', g1, g2⟩ := aload_ok (P := P) (tt := tt) (tt_ok htt ht) hH hv hp.app.1
        have hr := av_rel hA (.tmp d)
        rw [hx] at hr
        have e : a.tmps.getD d undef = .pointer (some (addrOf (μ b) off.val)) := hr.2
        refine ⟨v' :: xs, ?_, g2, h2⟩
        rw [List.mapM_cons]
        have e2 : (asAddr (Value.pointer (some (addrOf (μ b) off.val)))).run P w = .ok (addrOf (μ b) off.val) w := rfl
        simp only [Sem.run_bind, Sem.run_pure, Result.andThen_ok, h1, e, e2, g1]
      · cases h
    · cases h
theorem relV1_of {μ : Nat → Loc} {N : Nat} {v : V} {x : Value} (h : relV μ N v x) (ht : isT v = false) : relV1 μ N v x := by
  cases v with
  | t _ => cases ht
  | c _ => exact h
  | a _ => exact h
  | u => trivial
  | n => exact h
theorem tup_ok {μ : Nat → Loc} {N : Nat} {vs : List V} {v : V} (h : tup vs = some v) {xs : List Value} (hr : relL (relV μ N) vs xs) : relV μ N v (if h : xs.toArray.size = 1 then xs.toArray[0] else .tuple xs.toArray) := by
  unfold tup at h
  split at h
  · cases h
    cases xs with
    | nil => exact hr.elim
    | cons x xs =>
      cases xs with
      | nil => exact hr.1
      | cons _ _ => exact hr.2.elim
  · rename_i hne
    split at h
    · cases h
    · rename_i ht
      cases h
      have hlen := hr.len
      have : xs.toArray.size ≠ 1 := fun e => by
        have e : vs.length = 1 := by rw [hlen]; simpa using e
        obtain ⟨y, rfl⟩ := List.length_eq_one_iff.1 e
        exact hne _ rfl
      rw [dif_neg this]
      have key : ∀ {vs : List V} {xs : List Value}, vs.any isT = false → relL (relV μ N) vs xs → relL (relV1 μ N) vs xs := by
        intro vs
        induction vs with
        | nil => intro xs _ h; cases xs with | nil => trivial | cons _ _ => exact h.elim
        | cons y vs ih =>
          intro xs hu h
          simp only [List.any_cons, Bool.or_eq_false_iff] at hu
          cases xs with
          | nil => exact h.elim
          | cons x xs => exact ⟨relV1_of h.1 hu.1, ih hu.2 h.2⟩
      exact ⟨xs, rfl, key ht hr⟩
theorem results_ok {P : Program} {tt : TT} (htt : TtOk P tt) {fn : Func} {A : List V} {H : Heap} {μ : Nat → Loc} {W : Nat → Prop} {w : World} {a : Act} (hA : relA μ H.length A a.tmps) (hH : HRel μ W H w) {vs : List V} {p : Obl} (h : ares tt A H fn.results.toList = some (vs, p)) (hp : holds p) {v : V} (hv : tup vs = some v) :
    ∃ x, (results fn a.tmps).run P w = .ok x w ∧ relV μ H.length v x := by
  obtain ⟨xs, h1, h2⟩ := ares_ok htt hA hH h hp
  refine ⟨_, ?_, tup_ok hv h2⟩
  unfold results
  rw [Array.mapM_eq_mapM_toList]
  have e : ∀ (f g : ResultVar → Sem Value), (∀ r, f r = g r) → (fn.results.toList.mapM g).run P w = .ok xs w → ((do let x ← List.toArray <$> fn.results.toList.mapM f; pure (if h : x.size = 1 then x[0] else Value.tuple x)) : Sem Value).run P w = .ok (if h : xs.toArray.size = 1 then xs.toArray[0] else .tuple xs.toArray) w := fun f g hfg hg => by
    have : f = g := funext hfg
    subst this
    rw [map_eq_pure_bind]
    simp only [Sem.run_bind, hg, Result.andThen_ok, Sem.run_pure]
  exact e _ _ (fun r => by cases r <;> rfl) h1
structure FnOk (P : Program) (g : Nat) (fn : Func) (c : Code) : Prop where
  at_ : P.funcs[g]? = some fn
  body : fn.body = some c
  name : (fn.name == "runtime.NumGoroutine") = false
theorem callFunc_run {P : Program} {g : Nat} {fn : Func} {c : Code} (h : FnOk P g fn c) (args : Array Value) (w : World) : (callFunc g args).run P w = .ok (.enter g args) w := by
  unfold callFunc
  have hp : (program : Sem Program).run P w = .ok P w := rfl
  have hn : ¬ fn.name = "runtime.NumGoroutine" := by simpa using h.name
  simp [Sem.run_bind, hp, Result.andThen_ok, h.at_, h.body, hn]
end Go.Proofs.YteifneielgnniaaGreatDoor.Sh
namespace Go.Proofs.YteifneielgnniaaGreatDoor.Sh
open Go Ieee
/-- an argument as a function's own walk takes it: nothing of it written out -/
def nrmC : C → C
  | .b e => .b (.x fun _ => e.val)
  | .i k e => .i k (.x fun _ => e.val)
  | .sl b o n => .sl b (.x fun _ => o.val) (.x fun _ => n.val)
  | c => c
def nrm : V → V
  | .c x => .c (nrmC x)
  | .a cs => .a (cs.map nrmC)
  | v => v
theorem nrmC_ok {μ : Nat → Loc} {N : Nat} {x : C} {v : Value} (h : relC μ N x v) : relC μ N (nrmC x) v := by
  cases x <;> exact h
theorem nrm_ok {μ : Nat → Loc} {N : Nat} {x : V} {v : Value} (h : relV μ N x v) : relV μ N (nrm x) v := by
  cases x with
  | c x => exact nrmC_ok (x := x) h
  | a cs =>
    obtain ⟨vs, e, r⟩ := h
    refine ⟨vs, e, ?_⟩
    have := r.map (T := relC μ N) nrmC id fun a b _ hr => nrmC_ok hr
    simpa using this
  | _ => exact h
/-- the first heap may be taken for the second -/
def BLe : Option Blk → Option Blk → Prop
  | _, none => True
  | some B, some D => B.rw = D.rw ∧ B.es = D.es ∧ CellsLe B.cells D.cells
  | none, some _ => False
def HLe : Heap → Heap → Prop := relL BLe
theorem BLe.refl : ∀ x : Option Blk, BLe x x
  | none => trivial
  | some _ => ⟨rfl, rfl, CellsLe.refl _⟩
theorem HLe.refl : ∀ H : Heap, HLe H H
  | [] => trivial
  | x :: H => ⟨BLe.refl x, HLe.refl H⟩
theorem BLe.fl {r : Bool} {e : Nat} {x : Cells} {l : Unit → List Nat} (h : x.toFl = some l) : BLe (some ⟨r, e, x⟩) (some ⟨r, e, .fl l⟩) := ⟨rfl, rfl, (toFl_le h).1⟩
theorem BLe.cx {r : Bool} {e : Nat} {x : Cells} {l : Unit → List (Nat × Nat)} (h : x.toCx = some l) : BLe (some ⟨r, e, x⟩) (some ⟨r, e, .cx l⟩) := ⟨rfl, rfl, (toCx_le h).1⟩
theorem BLe.sx {r : Bool} {e : Nat} {x : Cells} {l : Unit → List ByteArray} (h : x.toSx = some l) : BLe (some ⟨r, e, x⟩) (some ⟨r, e, .sx l⟩) := ⟨rfl, rfl, (toSx_le h).1⟩
theorem BLe.it {r : Bool} {e : Nat} {x : Cells} {k : IntKind} {l : Unit → List Int} (h : x.toIt k = some l) : BLe (some ⟨r, e, x⟩) (some ⟨r, e, .it k l⟩) := ⟨rfl, rfl, (toIt_le h).1⟩
theorem HLe.nil : HLe [] [] := trivial
theorem HLe.cons {x y : Option Blk} {H H1 : Heap} (h : BLe x y) (k : HLe H H1) : HLe (x :: H) (y :: H1) := ⟨h, k⟩
theorem HLe.get : ∀ {H H1 : Heap}, HLe H H1 → ∀ {i : Nat} {D : Blk}, H1[i]? = some (some D) → ∃ B, H[i]? = some (some B) ∧ B.rw = D.rw ∧ B.es = D.es ∧ CellsLe B.cells D.cells
  | [], [], _, i, D, h => by simp at h
  | x :: H, y :: H1, hr, 0, D, h => by
    simp at h
    subst h
    cases x with
    | none => exact hr.1.elim
    | some B => exact ⟨B, rfl, hr.1⟩
  | x :: H, y :: H1, hr, i + 1, D, h => by simpa using HLe.get hr.2 (by simpa using h)
  | [], _ :: _, hr, _, _, _ => hr.elim
  | _ :: _, [], hr, _, _, _ => hr.elim
theorem HRel.le {μ : Nat → Loc} {W : Nat → Prop} {H H1 : Heap} {w : World} (h : HRel μ W H w) (hl : HLe H H1) : HRel μ W H1 w := by
  have hlen : H.length = H1.length := relL.len hl
  refine ⟨fun i D hD => ?_, fun i j D D' hi hj hrw hne => ?_⟩
  · obtain ⟨B, hB, e1, e2, hc⟩ := hl.get hD
    obtain ⟨c, t, lo, hi, g1, g2, g3, g4, g5⟩ := (h.blk i B hB).out
    refine ⟨c, t, lo, hi, g1, fun j z hz => ?_, e1 ▸ g3, e2 ▸ g4, e2 ▸ g5⟩
    obtain ⟨u, hu, hr⟩ := hc j z hz
    obtain ⟨v, hv, r⟩ := g2 j u hu
    exact ⟨v, hv, hlen ▸ hr _ _ _ r⟩
  · obtain ⟨B, hB, e1, _⟩ := hl.get hi
    obtain ⟨B', hB', _⟩ := hl.get hj
    exact h.sep i j B B' hB hB' (e1 ▸ hrw) hne
theorem start_ok {μ : Nat → Loc} {W : Nat → Prop} {w : World} {args : List V} {H H1 : Heap} {vs : List Value} (hW : Wide W w) (hH : HRel μ W H w) (hr : relL (relV μ H.length) args vs) (hl : HLe H H1) {n : Nat} :
    St μ H.length W w (args.map nrm ++ List.replicate (n - args.length) .n) H1 { tmps := vs.toArray ++ Array.replicate (n - vs.toArray.size) undef, defers := [] } w := by
  have hlen : H.length = H1.length := relL.len hl
  refine ⟨μ, agree.refl _ _, Nat.le_of_eq hlen, ?_, rfl, hH.le hl, Fr.refl _ _, hW⟩
  unfold relA
  have e : (vs.toArray ++ Array.replicate (n - vs.toArray.size) undef).toList = vs ++ List.replicate (n - args.length) undef := by
    simp [hr.len]
  show relL _ _ (vs.toArray ++ Array.replicate (n - vs.toArray.size) undef).toList
  rw [e, ← hlen]
  have h1 := hr.map (T := relV μ H.length) nrm id fun a b _ hr => nrm_ok hr
  rw [List.map_id] at h1
  exact h1.append (relL.replicate (R := relV μ H.length) (a := V.n) (b := undef) rfl _)
theorem fin_post {P : Program} {tt : TT} (htt : TtOk P tt) {fn : Func} {μ : Nat → Loc} {n0 : Nat} {H' : Heap} {v : V} {W : Nat → Prop} {w : World} :
    PostOk μ n0 W w (finE tt fn.results.toList n0 v H') (bodyPost P fn fun e w' => ∃ z, e = .returned z ∧ ∃ ν, agree n0 μ ν ∧ n0 ≤ H'.length ∧ HRel ν W H' w' ∧ relV ν H'.length v z ∧ Fr W w w') := by
  have key : ∀ {A : List V} {Hf : Heap} {a : Act} {w' : World}, fin tt fn.results.toList n0 v H' A Hf → St μ n0 W w A Hf a w' → a.defers = [] ∧ ∃ x, (results fn a.tmps).run P w' = .ok x w' ∧ ∃ z, Ending.returned x = .returned z ∧ ∃ ν, agree n0 μ ν ∧ n0 ≤ H'.length ∧ HRel ν W H' w' ∧ relV ν H'.length v z ∧ Fr W w w' := by
    intro A Hf a w' hfin hst
    obtain ⟨ν, h1, h2, h3, h4, h5, h6, h7⟩ := hst.out
    unfold fin at hfin
    split at hfin
    · exact hfin.elim
    · rename_i vs' p' hres
      split at hfin
      · exact hfin.elim
      · rename_i v1 htup
        split at hfin
        · exact hfin.elim
        · rename_i q' hq'
          obtain ⟨hp', _⟩ := obs_iff hfin
          obtain ⟨x, hx, hrx⟩ := results_ok htt h3 h5 hres hp'.app.1 htup
          obtain ⟨ρ, k1, k2, k3, k4⟩ := finQ_ok hq' hp'.app.2 h1 h5 hrx
          exact ⟨h4, x, hx, x, rfl, ρ, k1, k2, k3, k4, h6⟩
  intro e A Hf a w' hq hst
  cases e with
  | nrm => exact key hq hst
  | ret => exact key hq hst
  | exit i => exact hq.elim
/-! ## loops -/
theorem obs_mono : ∀ {p : Obl} {X Y : Unit → Prop}, obs p X → (X () → Y ()) → obs p Y
  | [], _, _, h, k => k h
  | _ :: _, _, _, .mk h1 h2, k => .mk h1 (obs_mono h2 k)
theorem stepA_mono {tt : TT} {E : Env} {o : Oper} {A : List V} {H : Heap} {K K' : List V → Heap → Prop} (k : ∀ A H, K A H → K' A H) (h : stepA tt E o A H K) : stepA tt E o A H K' := by
  unfold stepA at *
  split
  · rename_i v H' p e; rw [e] at h; exact obs_mono h (k _ _)
  · rename_i e; rw [e] at h
    split
    · rename_i e1 e2
      rw [e1, e2] at h
      obtain ⟨g0, g1, g2⟩ := h
      exact ⟨g0, fun q => obs_mono (g1 q) (k _ _), fun q => obs_mono (g2 q) (k _ _)⟩
    · rename_i hn
      dsimp only at h
      split at h
      · rename_i e1 e2; exact absurd e2 (hn _ _ _ _ _ _ _ _ e1)
      · cases h
theorem aops_mono {tt : TT} {E : Env} {ops : List Oper} : ∀ {l : List Oper} {A : List V} {H : Heap} {K K' : List V → Heap → Prop}, (∀ A H, K A H → K' A H) → aops tt E ops l A H K → aops tt E ops l A H K'
  | [], _, _, _, _, k, h => k _ _ h
  | o :: r, A, H, K, K', k, h => by
    unfold aops at *
    split
    · rename_i e; rw [e] at h; exact stepA_mono (fun A H => aops_mono k) h
    · rename_i e; rw [e] at h; exact aops_mono k h
    · rename_i d t want e
      rw [e] at h
      obtain ⟨h1, h2⟩ := h
      refine .mk (fun ht => ?_) (fun ht => ?_)
      · have := h1 ht
        cases want
        · exact aops_mono k this
        · exact stepA_mono (fun A H => aops_mono k) this
      · have := h2 ht
        cases want
        · exact stepA_mono (fun A H => aops_mono k) this
        · exact aops_mono k this
    · rename_i e; rw [e] at h; cases h
theorem gstep_mono {tt : TT} {E : Env} {ops : List Oper} {o : Oper} {A : List V} {H : Heap} {K K' : List V → Heap → Prop} (k : ∀ A H, K A H → K' A H) (h : gstep tt E ops o A H K) : gstep tt E ops o A H K' := by
  unfold gstep at *
  split
  · rename_i e; rw [e] at h; exact stepA_mono k h
  · rename_i e; rw [e] at h; exact k _ _ h
  · rename_i d t want e
    rw [e] at h
    obtain ⟨h1, h2⟩ := h
    refine .mk (fun ht => ?_) (fun ht => ?_)
    · have := h1 ht
      cases want
      · exact k _ _ this
      · exact stepA_mono k this
    · have := h2 ht
      cases want
      · exact stepA_mono k this
      · exact k _ _ this
  · rename_i e; rw [e] at h; cases h
theorem allP_mono {f g : Nat → Prop} (h : ∀ i, f i → g i) : ∀ {l : List Nat}, allP f l → allP g l
  | [], _ => trivial
  | [x], k => h _ k
  | x :: y :: l, k => by obtain ⟨k1, k2⟩ := k; exact ⟨h _ k1, allP_mono (l := y :: l) h k2⟩
theorem ordA_mono {tt : TT} {E : Env} {ops : Array Oper} : ∀ {f : Nat} {listed : Array Bool} {A : List V} {H : Heap} {K K' : List V → Heap → Prop}, (∀ A H, K A H → K' A H) → ordA tt E ops f listed A H K → ordA tt E ops f listed A H K'
  | 0, _, _, _, _, _, k, h => by
    unfold ordA at *
    split
    · rename_i e; rw [e] at h; exact k _ _ h
    · rename_i hn
      split at h
      · rename_i e; exact absurd e hn
      · exact h
  | f + 1, listed, A, H, K, K', k, h => by
    unfold ordA at *
    split
    · rename_i e; rw [e] at h; exact k _ _ h
    · rename_i x l e
      rw [e] at h
      refine allP_mono (fun i hi => ?_) h
      split
      · rename_i e'; rw [e'] at hi; exact hi
      · rename_i o e'; rw [e'] at hi; exact gstep_mono (fun A H => ordA_mono k) hi
theorem stepQ_mono {c : Cfg} {o : Oper} {A : List V} {H : Heap} {K K' : List V → Prop} (k : ∀ A, K A → K' A) (h : stepQ c o A H K) : stepQ c o A H K' := by
  unfold stepQ at *
  split
  · rename_i v p e; rw [e] at h; exact obs_mono h (k _)
  · rename_i e; rw [e] at h; cases h
theorem aopsQ_mono {c : Cfg} {ops : List Oper} {H : Heap} : ∀ {l : List Oper} {A : List V} {K K' : List V → Prop}, (∀ A, K A → K' A) → aopsQ c ops H l A K → aopsQ c ops H l A K'
  | [], _, _, _, k, h => k _ h
  | o :: r, A, K, K', k, h => by
    unfold aopsQ at *
    split
    · rename_i e; rw [e] at h; exact stepQ_mono (fun A => aopsQ_mono k) h
    · rename_i e; rw [e] at h; exact aopsQ_mono k h
    · rename_i d t want e
      rw [e] at h
      obtain ⟨h1, h2⟩ := h
      refine .mk (fun ht => ?_) (fun ht => ?_)
      · have := h1 ht
        cases want
        · exact aopsQ_mono k this
        · exact stepQ_mono (fun A => aopsQ_mono k) this
      · have := h2 ht
        cases want
        · exact stepQ_mono (fun A => aopsQ_mono k) this
        · exact aopsQ_mono k this
    · rename_i e; rw [e] at h; cases h
theorem quietI_mono {c : Cfg} {ops : Array Oper} {H : Heap} {K K' : List V → Prop} (k : ∀ A, K A → K' A) : ∀ {I : List Nat} {A : List V}, quietI c ops H I A K → quietI c ops H I A K'
  | [], _, h => k _ h
  | i :: r, A, h => by
    unfold quietI at *
    split
    · rename_i o e
      simp only [e] at h
      split
      · rename_i g; simp only [g] at h; exact stepQ_mono (fun A => quietI_mono k) h
      · rename_i g; split at h
        · rename_i g'; exact absurd g' g
        · exact h
    · rename_i e; simp only [e] at h
theorem stabA_mono {c : Cfg} {ops : Array Oper} {H : Heap} {A : List V} {K K' : Unit → Prop} (k : K () → K' ()) : ∀ {I : List Nat}, stabA c ops H A I K → stabA c ops H A I K'
  | [], h => k h
  | i :: r, h => by
    unfold stabA at *
    split
    · rename_i o e
      simp only [e] at h
      split
      · rename_i g
        simp only [g] at h
        split
        · rename_i v p hq
          simp only [hq] at h
          refine obs_mono h fun ⟨h1, h2⟩ => ⟨h1, stabA_mono k h2⟩
        · rename_i hq; simp only [hq] at h; cases h
      · rename_i g; split at h
        · rename_i g'; exact absurd g' g
        · exact h
    · rename_i e; simp only [e] at h
theorem ordI_mono {c : Cfg} {ops : Array Oper} {I : List Nat} {K K' : List V → Heap → Prop} (k : ∀ A H, K A H → K' A H) : ∀ {f : Nat} {listed : Array Bool} {A : List V} {H : Heap}, ordI c ops I f listed A H K → ordI c ops I f listed A H K'
  | 0, _, _, _, h => by
    unfold ordI at *
    refine stabA_mono (fun h => ?_) h
    split
    · rename_i e; rw [e] at h; exact k _ _ h
    · rename_i hn
      split at h
      · rename_i e; exact absurd e hn
      · exact h
  | f + 1, listed, A, H, h => by
    unfold ordI at *
    refine stabA_mono (fun h => ?_) h
    split
    · rename_i e; rw [e] at h; exact k _ _ h
    · rename_i x l e
      rw [e] at h
      refine allP_mono (fun i hi => ?_) h
      split
      · rename_i e'; rw [e'] at hi; exact hi
      · rename_i o e'; rw [e'] at hi; exact gstep_mono (fun A H => ordI_mono k) hi
theorem wpa_mono {c : Cfg} : ∀ {x : Code} {Q Q' : Post} {A : List V} {H : Heap}, (∀ e A H, Q e A H → Q' e A H) → wpa c x Q A H → wpa c x Q' A H := by
  intro x
  induction x with
  | skip => exact fun k h => k _ _ _ h
  | label l => exact fun k h => k _ _ _ h
  | exit id => exact fun k h => k _ _ _ h
  | ret => exact fun k h => k _ _ _ h
  | region id ops draws =>
    intro Q Q' A H k h
    cases draws with
    | false => exact aops_mono (fun A H => k .nrm A H) h
    | true =>
      rcases h with ⟨h1, h2⟩ | ⟨n, h1, h2⟩ | h2 | ⟨I, h1, h2⟩
      · exact .mk h1 (aopsQ_mono (fun A => k .nrm A H) h2)
      · exact .tail n h1 (aopsQ_mono (fun A => aops_mono (fun A H => k .nrm A H)) h2)
      · exact .all (ordA_mono (fun A H => k .nrm A H) h2)
      · exact .pull I h1 (quietI_mono (fun A => ordI_mono (fun A H => k .nrm A H)) h2)
  | seq x y ihx ihy =>
    intro Q Q' A H k h
    refine ihx (fun e A' H' hq => ?_) h
    cases e with
    | nrm => exact ihy k hq
    | exit i => exact k _ _ _ hq
    | ret => exact k _ _ _ hq
  | cond x y z ihy ihz =>
    intro Q Q' A H k h
    simp only [wpa] at h ⊢
    split at h
    · rename_i t e
      cases t with
      | true => exact ihy k h
      | false => exact ihz k h
    · exact ⟨fun ht => ihy k (h.1 ht), fun ht => ihz k (h.2 ht)⟩
    · exact h.elim
  | block id x ih =>
    intro Q Q' A H k h
    refine ih (fun e A' H' hq => ?_) h
    cases e with
    | nrm => exact k _ _ _ hq
    | ret => exact k _ _ _ hq
    | exit n =>
      dsimp only at hq ⊢
      split
      · rename_i e; rw [e] at hq; exact k _ _ _ hq
      · rename_i e; rw [e] at hq; exact k _ _ _ hq
  | loop x ih =>
    intro Q Q' A H k h
    obtain ⟨n, hn⟩ := h
    refine ⟨n, ?_⟩
    induction n generalizing A H with
    | zero => exact hn.elim
    | succ n ihn =>
      have step : ∀ {A H}, wpa c x (fun e A'' H'' => match e with | .nrm => rounds c.n0 (fun Q' A' H' => wpa c x Q' A' H') Q n A'' H'' | .exit i => Q (.exit i) A'' H'' | .ret => Q .ret A'' H'') A H →
          wpa c x (fun e A'' H'' => match e with | .nrm => rounds c.n0 (fun Q' A' H' => wpa c x Q' A' H') Q' n A'' H'' | .exit i => Q' (.exit i) A'' H'' | .ret => Q' .ret A'' H'') A H := fun h => ih (fun e A' H' hq => by
        cases e with
        | nrm => exact ihn hq
        | exit i => exact k _ _ _ hq
        | ret => exact k _ _ _ hq) h
      cases hn with
      | same hk => exact .same (step hk)
      | mk A' H' hg =>
        refine .mk A' H' ?_
        split
        · rename_i o ho; rw [ho] at hg; exact obs_mono hg step
        · rename_i ho; rw [ho] at hg; exact hg.elim
      | ren ρ A' H' hg =>
        refine .ren ρ A' H' ?_
        split
        · rename_i o ho; rw [ho] at hg; exact obs_mono hg step
        · rename_i ho; rw [ho] at hg; exact hg.elim
  | _ => exact fun _ h => h.elim
/-- the next round: the state is that of a ghost that is nearer to the end -/
inductive Next (n0 : Nat) {α : Type} (IA : α → List V) (IH : α → Heap) (J : α → Prop) (m : α → Nat) (k : Unit → Nat) (A : List V) (H : Heap) : Prop
  | mk (a : α) : J a → m a < k () → (match gen n0 A H (IA a) (IH a) with | some o => obs o (fun _ => True) | none => False) → Next n0 IA IH J m k A H
  | ren (ρ : List Nat) (a : α) : J a → m a < k () → (match genR n0 ρ A H (IA a) (IH a) with | some o => obs o (fun _ => True) | none => False) → Next n0 IA IH J m k A H
theorem loop_rule {α : Type} (IA : α → List V) (IH : α → Heap) (J : α → Prop) (m : α → Nat) {c : Cfg} {x : Code} {Q : Post} {A : List V} {H : Heap} (k : Unit → Nat)
    (h0 : Next c.n0 IA IH J m k A H)
    (h : ∀ a, J a → wpa c x (fun e A H => match e with | .nrm => Next c.n0 IA IH J m (fun _ => m a) A H | .exit i => Q (.exit i) A H | .ret => Q .ret A H) (IA a) (IH a)) :
    Loop c.n0 (fun Q' A' H' => wpa c x Q' A' H') Q A H := by
  refine ⟨k (), ?_⟩
  have key : ∀ n A H, Next c.n0 IA IH J m (fun _ => n) A H → rounds c.n0 (fun Q' A' H' => wpa c x Q' A' H') Q n A H := by
    intro n
    induction n using Nat.strongRecOn with
    | _ n ih =>
      intro A H hN
      cases n with
      | zero => cases hN with | mk a _ hlt _ => omega | ren _ a _ hlt _ => omega
      | succ n =>
        have step : ∀ a, J a → m a < n + 1 → wpa c x (fun e A'' H'' => match e with | .nrm => rounds c.n0 (fun Q' A' H' => wpa c x Q' A' H') Q n A'' H'' | .exit i => Q (.exit i) A'' H'' | .ret => Q .ret A'' H'') (IA a) (IH a) := by
          intro a hJ hlt
          refine wpa_mono (fun e A' H' hq => ?_) (h a hJ)
          cases e with
          | nrm =>
            refine ih n (by omega) _ _ ?_
            cases hq with
            | mk a' hJ' hlt' hg' => exact .mk a' hJ' (by omega) hg'
            | ren ρ a' hJ' hlt' hg' => exact .ren ρ a' hJ' (by omega) hg'
          | exit i => exact hq
          | ret => exact hq
        cases hN with
        | mk a hJ hlt hg =>
          refine .mk (IA a) (IH a) ?_
          split
          · rename_i o ho; rw [ho] at hg; exact obs_mono hg fun _ => step a hJ hlt
          · rename_i ho; rw [ho] at hg; exact hg.elim
        | ren ρ a hJ hlt hg =>
          refine .ren ρ (IA a) (IH a) ?_
          split
          · rename_i o ho; rw [ho] at hg; exact obs_mono hg fun _ => step a hJ hlt
          · rename_i ho; rw [ho] at hg; exact hg.elim
  cases h0 with
  | mk a h1 h2 h3 => exact key (k ()) A H (.mk a h1 h2 h3)
  | ren ρ a h1 h2 h3 => exact key (k ()) A H (.ren ρ a h1 h2 h3)
theorem wrap64 {x : Int} (h1 : -9223372036854775808 ≤ x) (h2 : x ≤ 9223372036854775807) : IntKind.wrap .i64 x = x := by
  simp [IntKind.wrap, IntKind.signed, IntKind.bits]
  omega
theorem wrap64_nat {i : Nat} (h : i < 4611686018427387904) : IntKind.wrap .i64 ((i : Int) + 1) = ((i + 1 : Nat) : Int) := by
  rw [wrap64 (by omega) (by omega)]; rfl
theorem BLe.nrm {r : Bool} {e : Nat} {l : List C} : BLe (some ⟨r, e, .lit l⟩) (some ⟨r, e, .lit (l.map nrmC)⟩) := ⟨rfl, rfl, fun j z hz => by
  simp only [Cells.at, List.getElem?_map, Option.map_eq_some_iff] at hz
  obtain ⟨u, hu, rfl⟩ := hz
  exact ⟨u, hu, fun _ _ _ r => nrmC_ok r⟩⟩
/-! a spec that sees neither its arguments nor its heap with anything written out -/
def nrmB : Option Blk → Option Blk
  | some ⟨r, e, .lit l⟩ => some ⟨r, e, .lit (l.map nrmC)⟩
  | x => x
theorem BLe.nrmB : ∀ x : Option Blk, BLe x (nrmB x)
  | none => trivial
  | some ⟨_, _, .lit _⟩ => BLe.nrm
  | some ⟨_, _, .fl _⟩ => BLe.refl _
  | some ⟨_, _, .cx _⟩ => BLe.refl _
  | some ⟨_, _, .sx _⟩ => BLe.refl _
  | some ⟨_, _, .it _ _⟩ => BLe.refl _
theorem HLe.nrmB : ∀ H : Heap, HLe H (H.map Sh.nrmB)
  | [] => trivial
  | x :: H => ⟨BLe.nrmB x, HLe.nrmB H⟩
def hspec (s : Spec) : Spec := fun args H => s (args.map nrm) (H.map nrmB)
theorem ok_of_wpaH {P : Program} {tt : TT} {E : Env} (hm : P.follows .mixedOrders = true) (htt : TtOk P tt) (hE : EnvOk P E) {g : Nat} {fn : Func} {c : Code} (hf : FnOk P g fn c) {s : Spec}
    (h : ∀ args H v H' o, s args H = some (v, H', o) → holds o →
      ∃ H1, HLe H H1 ∧ wpa ⟨tt, E, H.length⟩ c (finE tt fn.results.toList H.length v H') (args ++ List.replicate (fn.ntmps - args.length) .n) H1) : Ok P g (hspec s) := by
  intro args H v H' o hs ho μ W w vs hW hH hr
  have hlen : (H.map nrmB).length = H.length := by simp
  have hH2 := hH.le (HLe.nrmB H)
  refine .inl ⟨callFunc_run hf _ _, calls_of_wp hf.at_ hf.body ?_⟩
  obtain ⟨H1, hl, hwp⟩ := h _ _ v H' o hs ho
  rw [List.length_map (f := nrm), hlen] at hwp
  have hr2 : relL (relV μ (H.map nrmB).length) args vs := by rw [hlen]; exact hr
  have hst := start_ok (n := fn.ntmps) hW hH2 hr2 hl
  rw [hlen] at hst
  exact wpa_ok (c := ⟨tt, E, H.length⟩) hm htt hE hwp hst (fin_post htt)
/-- a frame: what is written out, the rest forgotten -/
def fr (n : Nat) (l : List (Nat × V)) : List V := l.foldl (fun A q => A.set q.1 q.2) (List.replicate n .u)
/-! one of two shapes -/
theorem alt_t {b : Bool} {X Y : Unit → Prop} (h : b = true) (x : X ()) : Alt (fun _ => b = true) (fun _ => b = false) X Y := ⟨.inl h, fun _ => x, fun k => by rw [h] at k; cases k⟩
theorem alt_f {b : Bool} {X Y : Unit → Prop} (h : b = false) (y : Y ()) : Alt (fun _ => b = true) (fun _ => b = false) X Y := ⟨.inr h, fun k => (by rw [h] at k; cases k), fun _ => y⟩
theorem alt_b {b : Bool} {X Y : Unit → Prop} (x : b = true → X ()) (y : b = false → Y ()) : Alt (fun _ => b = true) (fun _ => b = false) X Y := ⟨Bool.eq_false_or_eq_true b, x, y⟩
theorem holds.two {p q : Unit → Prop} (h : holds [p, q]) : p () ∧ q () := ⟨h p (by simp), h q (by simp)⟩
theorem holds.three {p q r : Unit → Prop} (h : holds [p, q, r]) : p () ∧ q () ∧ r () := ⟨h p (by simp), h q (by simp), h r (by simp)⟩
end Go.Proofs.YteifneielgnniaaGreatDoor.Sh
namespace Go.Proofs.YteifneielgnniaaGreatDoor.Sh
open Go Go.ChangeShapes Go.WideShapes Go.RowKit
/-! ## laws -/
/-- it returns true, and the input reads as it did -/
structure LawSpec (s : ChangeSpec) (n : Nat) : Prop where
  vars : s.vars = []
  fn : ∀ (H : Type) (ds : List (DataW H)), ds.length = n → (s.fn H ds).results = [.lit (.bool true)] ∧ (s.fn H ds).args = ds ∧ (s.fn H ds).vars = []
section
variable {H : Type} {enc : TypeId × Value → H} {P : Program}
theorem trodAll_stays (hl : laidOutB P = true) {W W' : World} {sp : Nat → Bool} : ∀ {ts : List TypeId} {vs : List Value} {ds : List (DataW H)} {p : List MemPlace},
    (∀ t ∈ ts, P.readableRec t = true ∧ t < P.types.size) → DataW.TrodAll enc P W 0 (fun _ => true) true ts vs ds p → Below W.heap.size W W' → (∀ x ∈ p, x.block < W.heap.size) → (∀ x ∈ p, sp x.block = true) →
    DataW.TrodAll enc P W' 0 sp true ts vs ds p
  | [], [], [], _, _, h, _, _, _ => h
  | t :: ts, v :: vs, d :: ds, p, ht, h, hb, hlt, hs => by
    obtain ⟨p1, q, h1, h2, rfl⟩ := h
    obtain ⟨k1, k2⟩ := ht t (List.mem_cons_self ..)
    exact ⟨p1, q, WideElems.Trod_stays hl k1 k2 h1 (fun x hx => hb.same (hlt x (by simp [hx]))) (fun x hx => hs x (by simp [hx])),
      trodAll_stays hl (fun t m => ht t (List.mem_cons_of_mem _ m)) h2 hb (fun x hx => hlt x (by simp [hx])) (fun x hx => hs x (by simp [hx])), rfl⟩
  | [], [], _ :: _, _, _, h, _, _, _ => h.elim
  | [], _ :: _, _, _, _, h, _, _, _ => by simp [DataW.TrodAll] at h
  | _ :: _, [], _, _, _, h, _, _, _ => by simp [DataW.TrodAll] at h
  | _ :: _, _ :: _, [], _, _, h, _, _, _ => h.elim
theorem trodAll_len {W : World} {b : Nat} {sp : Nat → Bool} {hd : Bool} : ∀ {ts : List TypeId} {vs : List Value} {ds : List (DataW H)} {p : List MemPlace}, DataW.TrodAll enc P W b sp hd ts vs ds p → ds.length = ts.length ∧ vs.length = ts.length
  | [], [], [], _, _ => ⟨rfl, rfl⟩
  | _ :: _, _ :: _, _ :: _, _, h => by
    obtain ⟨p1, q, _, h2, _⟩ := h
    obtain ⟨a, b⟩ := trodAll_len h2
    exact ⟨by simp [a], by simp [b]⟩
  | [], [], _ :: _, _, h => h.elim
  | [], _ :: _, _, _, h => by simp [DataW.TrodAll] at h
  | _ :: _, [], _, _, h => by simp [DataW.TrodAll] at h
  | _ :: _, _ :: _, [], _, h => h.elim
end
theorem law_calls {P : Program} {g : Nat} {fn : Func} {c : Code} (hf : FnOk P g fn c) {s : Spec} (h : Ok P g s) {abs : List V} {Hp H' : Heap} {o : Obl} (hs : s abs Hp = some (.c (.b (.l true)), H', o)) (ho : holds o)
    {μ : Nat → Loc} {W : World} {vs : List Value} (htab : ∀ t ∈ tabCells, t.1 < W.heap.size ∧ ∃ v, W.cell? ⟨t.1, t.2.1, none⟩ = some v ∧ t.2.2 v) (hH : HRel μ (fun k => W.heap.size ≤ k) Hp W) (hr : relL (relV μ Hp.length) abs vs) :
    Calls P g vs.toArray W fun e w' => e = .returned (.bool true) ∧ Below W.heap.size W w' := by
  rcases h abs Hp _ H' o hs ho μ (fun k => W.heap.size ≤ k) W vs ⟨fun k hk => hk, fun t ht => ⟨(htab t ht).1, Nat.not_le.2 (htab t ht).1, (htab t ht).2⟩⟩ hH hr with ⟨_, hc⟩ | ⟨v, w', hv, _⟩
  · refine hc.mono fun e w' ⟨v, he, ν, _, _, _, hv, hfr⟩ => ?_
    have hv : v = .bool true := hv
    subst hv
    exact ⟨he, hfr.os, hfr.tape, hfr.output, hfr.size, fun k hk => hfr.block k hk (by omega)⟩
  · rw [callFunc_run hf] at hv
    cases hv
end Go.Proofs.YteifneielgnniaaGreatDoor.Sh
namespace Go.Proofs.YteifneielgnniaaGreatDoor.Sh
open Go Go.ChangeShapes Go.WideShapes Go.RowKit
/-! ## arguments -/
inductive K | b | i (k : IntKind) | f (k : FloatKind) | z (k : FloatKind) | s
def kCell (P : Program) (u : TypeId) : Option K :=
  match P.underlying u with
  | some .bool => some .b
  | some (.int k) => some (.i k)
  | some (.float k) => some (.f k)
  | some (.complex k) => some (.z k)
  | some .string => some .s
  | _ => none
section
variable {P : Program} {w : World} {r : Reach} {b : Nat}
end
theorem hrel_nil (μ : Nat → Loc) (W : Nat → Prop) (w : World) : HRel μ W [] w := ⟨fun i B h => by simp at h, fun i j B D h => by simp at h⟩
end Go.Proofs.YteifneielgnniaaGreatDoor.Sh
namespace Go.Proofs.YteifneielgnniaaGreatDoor.Sh
open Go Go.ChangeShapes Go.WideShapes Go.RowKit Go.Deep
/-! ## rows of plain elements -/
def kFs (P : Program) (rec : TypeId → Option (List K)) : List Field → Nat → Option (List K)
  | [], _ => some []
  | f :: r, off => match Nat.beq f.offset off, rec f.type with
    | true, some ks => match Nat.beq (P.cellsOf f.type) ks.length, kFs P rec r (off + ks.length) with
      | true, some q => some (ks ++ q)
      | _, _ => none
    | _, _ => none
def kT (P : Program) : Nat → TypeId → Option (List K)
  | 0, _ => none
  | n + 1, t => match P.underlying t with
    | some (.struct fs) => match kFs P (kT P n) fs.toList 0 with
      | some ks => match Nat.beq (P.cellsOf t) ks.length with | true => some ks | false => none
      | none => none
    | _ => match kCell P t with
      | some k => some [k]
      | none => none
section
variable {H : Type} {enc : TypeId × Value → H} {P : Program} {w : World} {base : Nat} {spare : Nat → Bool} {held : Bool}
theorem relL_drop_take {R : K → Value → Prop} {ks q : List K} {cs : List Value} {off : Nat} (h1 : relL R ks ((cs.drop off).take ks.length)) (h2 : relL R q (cs.drop (off + ks.length))) : relL R (ks ++ q) (cs.drop off) := by
  have e : cs.drop off = (cs.drop off).take ks.length ++ cs.drop (off + ks.length) := by
    rw [← List.drop_drop, List.take_append_drop]
  rw [e]
  exact h1.append h2
end
theorem trodAll_at {H : Type} {enc : TypeId × Value → H} {P : Program} {w : World} {b : Nat} {sp : Nat → Bool} {hd : Bool} : ∀ {ts : List TypeId} {vs : List Value} {ds : List (DataW H)} {p : List MemPlace}, DataW.TrodAll enc P w b sp hd ts vs ds p →
    ∀ (j : Nat) {t : TypeId} {v : Value}, ts[j]? = some t → vs[j]? = some v → ∃ d p', DataW.Trod enc P w b sp hd t v d p'
  | [], _, _, _, _, j, t, v, ht, _ => by simp at ht
  | t :: ts, v :: vs, d :: ds, _, h, j, t', v', ht, hv => by
    obtain ⟨p1, q, h1, h2, _⟩ := h
    cases j with
    | zero => simp at ht hv; subst ht; subst hv; exact ⟨d, p1, h1⟩
    | succ j => exact trodAll_at h2 j (by simpa using ht) (by simpa using hv)
  | _ :: _, [], _, _, h, _, _, _, _, _ => by simp [DataW.TrodAll] at h
  | _ :: _, _ :: _, [], _, h, _, _, _, _, _ => h.elim
theorem holds_mk {p : Unit → Prop} (h : p ()) : holds [p] := fun q hq => by
  rw [List.mem_singleton] at hq; subst hq; exact h
theorem hrel_ro1 {w : World} {W : Nat → Prop} {loc : Loc} {B : Blk} (h : ∀ μ N W, BlkRel μ N W w loc B) (hrw : B.rw = false) : HRel (fun _ => loc) W [some B] w := by
  refine ⟨fun i D hi => ?_, fun i j D D' hi hj hr _ => ?_⟩
  · cases i with
    | zero => simp at hi; subst hi; exact h _ _ _
    | succ i => simp at hi
  · cases i with
    | zero => simp at hi; subst hi; rw [hrw] at hr; cases hr
    | succ i => simp at hi
theorem hrel_ro2 {w : World} {W : Nat → Prop} {loc loc' : Loc} {B B' : Blk} (h : ∀ μ N W, BlkRel μ N W w loc B) (h' : ∀ μ N W, BlkRel μ N W w loc' B') (hrw : B.rw = false) (hrw' : B'.rw = false) : HRel (fun i => match i with | 0 => loc | _ => loc') W [some B, some B'] w := by
  refine ⟨fun i D hi => ?_, fun i j D D' hi hj hr _ => ?_⟩
  · match i, hi with
    | 0, hi => simp at hi; subst hi; exact h _ _ _
    | 1, hi => simp at hi; subst hi; exact h' _ _ _
    | i + 2, hi => simp at hi
  · match i, hi with
    | 0, hi => simp at hi; subst hi; rw [hrw] at hr; cases hr
    | 1, hi => simp at hi; subst hi; rw [hrw'] at hr; cases hr
    | i + 2, hi => simp at hi
end Go.Proofs.YteifneielgnniaaGreatDoor.Sh
namespace Go.Proofs.YteifneielgnniaaGreatDoor.Sh
open Go Go.ChangeShapes Go.WideShapes Go.RowKit Go.Deep
/-! ## arguments, and how great their words are -/
def kRelB : K → Value → Prop
  | .b, v => ∃ x, v = .bool x
  | .i k, v => ∃ x, v = .int k x ∧ k.min ≤ x ∧ x ≤ k.max
  | .f k, v => ∃ x, v = .float k x ∧ (Lit.float k x).wf = true
  | .z k, v => ∃ x y, v = .complex k x y
  | .s, v => ∃ x, v = .string x
section
variable {H : Type} {enc : TypeId × Value → H} {P : Program} {w : World} {base : Nat} {spare : Nat → Bool} {held : Bool} {r : Reach}
theorem trod_cellB {t : TypeId} {k : K} (hk : kCell P t = some k) : ∀ {fuel : Nat} {cs : List Value} {x : DataW H × List MemPlace}, DataW.trod enc P w base spare held fuel t cs = some x → relL kRelB [k] cs := by
  intro fuel cs x h
  cases fuel with
  | zero => simp [DataW.trod] at h
  | succ n =>
    unfold kCell at hk
    unfold DataW.trod at h
    split at hk <;> first | (cases hk; done) | skip
    all_goals
      rename_i hu
      cases hk
      rw [hu] at h
      cases cs with
      | nil => simp at h
      | cons v cs =>
        cases cs with
        | cons _ _ => simp at h
        | nil =>
          refine ⟨?_, trivial⟩
          cases v <;> simp at h
          all_goals first | (obtain ⟨⟨rfl, h1⟩, _⟩ := h; simp [Lit.wf] at h1; exact ⟨_, rfl, h1.1, h1.2⟩) | (obtain ⟨⟨rfl, h1⟩, _⟩ := h; exact ⟨_, rfl, h1⟩) | exact ⟨_, rfl⟩
theorem trod_kindsB : ∀ {n : Nat} {t : TypeId} {ks : List K}, kT P n t = some ks → ∀ {fuel : Nat} {cs : List Value} {x : DataW H × List MemPlace}, DataW.trod enc P w base spare held fuel t cs = some x → relL kRelB ks cs
  | 0, _, _, h, _, _, _, _ => by simp [kT] at h
  | n + 1, t, ks, h, fuel, cs, x, hx => by
    unfold kT at h
    split at h
    · rename_i fs hu
      split at h
      · rename_i ks' hks
        split at h
        · rename_i hlen
          cases h
          have hlen := beqN_eq hlen
          obtain ⟨xs, m, _, _, hcl, hxl, hg⟩ := DataW.trod_struct hu hx
          have key : ∀ (l : List Field) (off : Nat) (ks : List K), kFs P (kT P n) l off = some ks → off + ks.length = cs.length → (∀ f ∈ l, ∃ y, DataW.trod enc P w base spare held m f.type ((cs.drop f.offset).take (P.cellsOf f.type)) = some y) → relL kRelB ks (cs.drop off) := by
            intro l
            induction l with
            | nil =>
              intro off ks hk hl _
              simp only [kFs, Option.some.injEq] at hk
              subst hk
              have : cs.drop off = [] := List.drop_eq_nil_of_le (by simpa using Nat.le_of_eq hl.symm)
              rw [this]; trivial
            | cons f l ih =>
              intro off ks hk hl hf
              unfold kFs at hk
              split at hk
              · rename_i k1 ho hk1
                split at hk
                · rename_i q hc hq
                  cases hk
                  have ho := beqN_eq ho
                  have hc := beqN_eq hc
                  obtain ⟨y, hy⟩ := hf f (List.mem_cons_self ..)
                  have h1 := trod_kindsB hk1 hy
                  rw [ho, hc] at h1
                  exact relL_drop_take h1 (ih _ _ hq (by simp at hl; omega) fun g hg => hf g (List.mem_cons_of_mem _ hg))
                · cases hk
              · cases hk
          have := key fs.toList 0 _ hks (by omega) fun f hf => by
            obtain ⟨i, hi⟩ := List.getElem?_of_mem hf
            have hi' : fs[i]? = some f := by simpa using hi
            have hlt : i < xs.length := by
              have := (Array.getElem?_eq_some_iff.1 hi').1
              omega
            exact ⟨xs[i], by rw [hg i f hi', List.getElem?_eq_getElem hlt]⟩
          simpa using this
        · cases h
      · cases h
    · split at h
      · rename_i k hk
        cases h
        exact trod_cellB hk hx
      · cases h
end
/-- A SLICE OF PLAIN ELEMENTS -/
theorem row_open {H : Type} {enc : TypeId × Value → H} {P : Program} {w : World} {base : Nat} {t e : TypeId} (ht : P.underlying t = some (.slice e)) {n : Nat} {ks : List K} (hk : kT P n e = some ks) {K0 : K} (hf : ∀ k ∈ ks, k = K0) (hc : P.cellsOf e = ks.length)
    {v : Value} (hv : Value.okWide P w .any base t v) {d : DataW H} {p : List MemPlace} (h : DataW.Trod enc P w 0 (fun _ => true) true t v d p) :
    v = .slice none 0 0 ∨ ∃ (a : Addr) (c : Array Value) (e' : TypeId) (lo hi : Nat) (len cap : Nat), v = .slice (some a) len cap ∧ a.spot = none ∧ w.heap[a.block]? = some (.cells c e' ⟨lo, hi⟩) ∧ len ≤ cap ∧ (cap : Int) ≤ 9223372036854775807 ∧
      (∀ j, j < len * ks.length → ∃ x, c[a.off + j]? = some x ∧ kRelB K0 x) := by
  obtain ⟨fuel, hd⟩ := h
  have hv' := hv
  unfold Value.okWide at hv'
  rw [ht] at hv'
  obtain ⟨a0, len0, cap0, rfl⟩ := okWide_slice ht hv
  rcases open_slice ht hd with ⟨h0, _⟩ | ⟨a, len, cap, m, n', D, Pl, hcs, _, hl, hm, hmm, _, hx⟩
  · left
    simpa [Value.cells] using h0
  · right
    have hcs : Value.slice a0 len0 cap0 = .slice (some a) len cap := by simpa [Value.cells] using hcs
    rw [hcs] at hv' ⊢
    simp only [Cell.okWide, ht, Cell.ok] at hv'
    obtain ⟨_, hcap, _, hspot, row, cells, hsh, _⟩ := hv'
    have hblk : ∃ c e fz, w.heap[a.block]? = some (.cells c e fz) := by
      unfold World.shape? at hsh
      cases hb : w.heap[a.block]? with
      | none => rw [hb] at hsh; simp at hsh
      | some o =>
        rw [hb] at hsh
        cases o with
        | cells c e fz => exact ⟨c, e, fz, rfl⟩
        | _ => simp at hsh
    obtain ⟨c, e', ⟨lo, hi⟩, hb⟩ := hblk
    have hle : len ≤ m := by rw [hmm]; simp; omega
    refine ⟨a, c, e', lo, hi, len, cap, rfl, hspot, hb, hl, hcap, ?_⟩
    intro j hj
    have hpos : 0 < ks.length := by
      rcases Nat.eq_zero_or_pos ks.length with h | h
      · rw [h] at hj; omega
      · exact h
    obtain ⟨cs', h1, h2⟩ := hx (j / ks.length) (by
      have : j / ks.length < len := Nat.div_lt_of_lt_mul (by rw [Nat.mul_comm]; exact hj)
      omega)
    obtain ⟨_, hlen, hget⟩ := World.cells?_some h1
    have hr := trod_kindsB hk h2
    have hmod : j % ks.length < ks.length := Nat.mod_lt _ hpos
    obtain ⟨v, hv, hrel⟩ := hr.get (List.getElem?_eq_getElem hmod)
    rw [hf _ (List.getElem_mem hmod)] at hrel
    refine ⟨v, ?_, hrel⟩
    have hg := hget (j % ks.length) (by rw [hc]; exact hmod)
    rw [hv] at hg
    have e1 : (a.add (j / ks.length * P.cellsOf e)).add (j % ks.length) = addrOf ⟨a.block, a.off, 0, 0⟩ j := by
      have ea : a = addrOf ⟨a.block, a.off, 0, 0⟩ 0 := by
        obtain ⟨b, o, s⟩ := a
        simp only at hspot
        subst hspot
        rfl
      rw [hc]
      conv => lhs; rw [ea]
      rw [addr_add, addr_add]
      congr 1
      rw [Nat.zero_add, Nat.mul_comm]
      exact Nat.div_add_mod j ks.length
    rw [e1, cell_addr (L := ⟨a.block, a.off, 0, 0⟩) hb] at hg
    exact hg
def intOf' : Option Value → Int
  | some (.int _ n) => n
  | _ => 0
/-- a slice of whole numbers -/
theorem ints_open {H : Type} {enc : TypeId × Value → H} {P : Program} {w : World} {base : Nat} {t e : TypeId} (ht : P.underlying t = some (.slice e)) {n : Nat} {k : IntKind} (hk : kT P n e = some [.i k]) (hc : P.cellsOf e = 1)
    {v : Value} (hv : Value.okWide P w .any base t v) {d : DataW H} {p : List MemPlace} (h : DataW.Trod enc P w 0 (fun _ => true) true t v d p) :
    v = .slice none 0 0 ∨ ∃ (loc : Loc) (L : List Int) (len : Nat), (∀ μ N W, BlkRel μ N W w loc ⟨false, 0, .it k fun _ => L⟩) ∧ L.length = len ∧ len ≤ 9223372036854775807 ∧ (∀ x ∈ L, k.min ≤ x ∧ x ≤ k.max) ∧
      ∀ (μ : Nat → Loc) (N b : Nat) (l : NE), b < N → μ b = loc → l.val = len → relC μ N (.sl b (.x fun _ => 0) l) v := by
  rcases row_open ht hk (K0 := .i k) (fun q hq => by simpa using hq) hc hv h with h0 | ⟨a, c, e', lo, hi, len, cap, rfl, hspot, hb, hl, hcap, hcell⟩
  · exact .inl h0
  · right
    simp only [List.length_cons, List.length_nil, Nat.zero_add, Nat.mul_one] at hcell
    refine ⟨⟨a.block, a.off, 0, 0⟩, (List.range len).map fun j => intOf' c[a.off + j]?, len, fun μ N W => ⟨c, e', lo, hi, hb, fun j x hx => ?_, fun h => (by cases h), rfl, fun h => absurd rfl h⟩, by simp, ?_, ?_, fun μ N b l hb' hμ hl' => ⟨hb', cap, a, by rw [hl']; exact hl, .inl (by rw [hμ]), .inr ?_, by rw [hl']⟩⟩
    · simp only [Cells.at, List.getElem?_map, Option.map_eq_some_iff] at hx
      obtain ⟨_, ⟨j', hj', rfl⟩, rfl⟩ := hx
      have hlt : j < len := by simpa using lt_of_get hj'
      rw [List.getElem?_range hlt] at hj'
      cases hj'
      obtain ⟨v, hb'', hr⟩ := hcell j hlt
      obtain ⟨b, rfl, _⟩ := hr
      exact ⟨_, hb'', by rw [hb'']; rfl⟩
    · omega
    · intro x hx
      simp only [List.mem_map, List.mem_range] at hx
      obtain ⟨j, hj, rfl⟩ := hx
      obtain ⟨v, hb'', b, rfl, h1, h2⟩ := hcell j hj
      rw [hb'']
      exact ⟨h1, h2⟩
    · rw [hμ]
      obtain ⟨b, o, s⟩ := a
      simp only at hspot
      subst hspot
      rfl
end Go.Proofs.YteifneielgnniaaGreatDoor.Sh
namespace Go.Proofs.YteifneielgnniaaGreatDoor.Sh
open Go
/-! ## cutting code: a law is walked in pieces -/
def cutAt : Nat → Code → Option (Code × Code)
  | 0, .seq a b => some (a, b)
  | k + 1, .seq a b => match cutAt k b with
    | some (x, y) => some (.seq a x, y)
    | none => none
  | _, _ => none
def cutL (k : Nat) (z : Code) : Code := match cutAt k z with | some (x, _) => x | none => .skip
def cutR (k : Nat) (z : Code) : Code := match cutAt k z with | some (_, y) => y | none => .skip
/-- a branch that is known -/
theorem Br.f {t : Unit → Bool} {X Y : Unit → Prop} (h : t () = false) (y : Y ()) : Br t X Y := ⟨fun k => (by rw [h] at k; cases k), fun _ => y⟩
theorem Br.t {t : Unit → Bool} {X Y : Unit → Prop} (h : t () = true) (x : X ()) : Br t X Y := ⟨fun _ => x, fun k => (by rw [h] at k; cases k)⟩
/-- a frame of which some slots are known -/
def frj (n : Nat) (f : Nat → V) (l : List (Nat × V)) : List V := l.foldl (fun A q => A.set q.1 q.2) ((List.range n).map f)
def frjOk (A : List V) : List (Nat × V) → Prop
  | [] => True
  | q :: r => A[q.1]? = some q.2 ∧ frjOk A r
theorem set_id {A : List V} {i : Nat} {v : V} (h : A[i]? = some v) : A.set i v = A := by
  refine List.ext_getElem? fun j => ?_
  rw [List.getElem?_set]
  split
  · rename_i e
    subst e
    have hlt : i < A.length := by
      rcases Nat.lt_or_ge i A.length with h1 | h1
      · exact h1
      · rw [List.getElem?_eq_none h1] at h; cases h
    rw [if_pos hlt, h]
  · rfl
theorem map_getD {A : List V} : (List.range A.length).map (fun i => A.getD i .n) = A := by
  refine List.ext_getElem? fun j => ?_
  rw [List.getElem?_map]
  rcases Nat.lt_or_ge j A.length with h | h
  · rw [List.getElem?_range h, Option.map_some, List.getD_eq_getElem?_getD, List.getElem?_eq_getElem h]; rfl
  · rw [List.getElem?_eq_none (by simpa using h), List.getElem?_eq_none h]; rfl
theorem frj_of {A : List V} {n : Nat} (hn : A.length = n) {l : List (Nat × V)} (h : frjOk A l) : ∃ f, A = frj n f l := by
  refine ⟨fun i => A.getD i .n, ?_⟩
  subst hn
  unfold frj
  rw [map_getD]
  induction l with
  | nil => rfl
  | cons q r ih =>
    rw [List.foldl_cons, set_id h.1]
    exact ih h.2
/-- what holds where a law is cut: all but the frame's rest, in thunks that cbv leaves -/
structure Cut (n : Nat) (slots : Unit → List (Nat × V)) (heap : Unit → Heap) (P : Unit → Prop) (A : List V) (H : Heap) : Prop where
  hA : ∃ f, A = frj n f (slots ())
  hH : H = heap ()
  hP : P ()
theorem Cut.of {n : Nat} {slots : Unit → List (Nat × V)} {heap : Unit → Heap} {P : Unit → Prop} {A : List V} {H : Heap} (hn : A.length = n) (hs : frjOk A (slots ())) (hH : H = heap ()) (hP : P ()) : Cut n slots heap P A H := ⟨frj_of hn hs, hH, hP⟩
theorem cutAt_eq {k : Nat} {z : Code} (h : (cutAt k z).isSome = true) : cutAt k z = some (cutL k z, cutR k z) := by
  unfold cutL cutR
  cases e : cutAt k z with
  | none => rw [e] at h; cases h
  | some q => rfl
end Go.Proofs.YteifneielgnniaaGreatDoor.Sh
namespace Go.Proofs.YteifneielgnniaaGreatDoor.Sh
open Go
/-! ## cutting code, where the state is generalized at the cut -/
/-- what a walk shows, said of the model's own code -/
structure wpS (P : Program) (c : Cfg) (x : Code) (Q : Post) (A : List V) (H : Heap) : Prop where
  run : ∀ {μ₀ : Nat → Loc} {W : Nat → Prop} {w₀ : World} {a : Act} {w : World}, St μ₀ c.n0 W w₀ A H a w → ∀ {R : Exit → Act → World → Prop}, PostOk μ₀ c.n0 W w₀ Q R → x.wp P R a w
/-- the state may be taken for another, and something holds -/
inductive CutG (n0 : Nat) (IA : Unit → List V) (IH : Unit → Heap) (F : Unit → Prop) (A : List V) (H : Heap) : Prop
  | mk : F () → (match gen n0 A H (IA ()) (IH ()) with | some o => obs o (fun _ => True) | none => False) → CutG n0 IA IH F A H
  | ren (ρ : List Nat) : F () → (match genR n0 ρ A H (IA ()) (IH ()) with | some o => obs o (fun _ => True) | none => False) → CutG n0 IA IH F A H
section
variable {P : Program} {c : Cfg} (hm : P.follows .mixedOrders = true) (htt : TtOk P c.tt) (hE : EnvOk P c.E)
include hm htt hE
theorem wpS_of {x : Code} {Q : Post} {A : List V} {H : Heap} (h : wpa c x Q A H) : wpS P c x Q A H :=
  ⟨fun hs _ hR => wpa_ok hm htt hE h hs hR⟩
theorem wpS_cutAt (G : List V → Heap → Prop) {Q : Post} : ∀ {k : Nat} {z x y : Code} {A : List V} {H : Heap}, cutAt k z = some (x, y) →
    wpa c x (fun e A H => match e with | .nrm => G A H | .exit n => Q (.exit n) A H | .ret => Q .ret A H) A H → (∀ A H, G A H → wpS P c y Q A H) → wpS P c z Q A H := by
  intro k
  induction k with
  | zero =>
    intro z x y A H h ha hb
    cases z <;> try (simp [cutAt] at h; done)
    rename_i p q
    simp only [cutAt, Option.some.injEq, Prod.mk.injEq] at h
    obtain ⟨rfl, rfl⟩ := h
    refine ⟨fun {μ₀ W w₀ a w} hs {R} hR => ?_⟩
    refine wp_seq (wpa_ok hm htt hE ha hs fun e A' H' a' w' hq hs' => ?_)
    cases e with
    | nrm => exact (hb _ _ hq).run hs' hR
    | exit i => exact hR (.exit i) _ _ _ _ hq hs'
    | ret => exact hR .ret _ _ _ _ hq hs'
  | succ k ih =>
    intro z x y A H h ha hb
    cases z <;> try (simp [cutAt] at h; done)
    rename_i p q
    unfold cutAt at h
    split at h
    · rename_i x' y' h'
      simp only [Option.some.injEq, Prod.mk.injEq] at h
      obtain ⟨rfl, rfl⟩ := h
      refine ⟨fun {μ₀ W w₀ a w} hs {R} hR => ?_⟩
      have ha : wpa c p _ A H := ha
      refine wp_seq (wpa_ok hm htt hE ha hs fun e A' H' a' w' hq hs' => ?_)
      cases e with
      | nrm => exact (ih h' hq hb).run hs' hR
      | exit i => exact hR (.exit i) _ _ _ _ hq hs'
      | ret => exact hR .ret _ _ _ _ hq hs'
    · cases h
theorem wpS_cut (k : Nat) (IA : Unit → List V) (IH : Unit → Heap) (F : Unit → Prop) {z : Code} {Q : Post} {A : List V} {H : Heap} (h : (cutAt k z).isSome = true)
    (h1 : wpa c (cutL k z) (fun e A H => match e with | .nrm => CutG c.n0 IA IH F A H | .exit n => Q (.exit n) A H | .ret => Q .ret A H) A H)
    (h2 : F () → wpS P c (cutR k z) Q (IA ()) (IH ())) : wpS P c z Q A H :=
  wpS_cutAt hm htt hE (CutG c.n0 IA IH F) (cutAt_eq h) h1 fun A H hR => by
    refine ⟨fun {μ₀ W w₀ a w} hs {R} hQ => ?_⟩
    cases hR with
    | mk hF hg =>
      split at hg
      · rename_i o ho
        exact (h2 hF).run (gen_ok ho (obs_iff hg).1 hs) hQ
      · exact hg.elim
    | ren ρ hF hg =>
      split at hg
      · rename_i o ho
        exact (h2 hF).run (genR_ok ho (obs_iff hg).1 hs) hQ
      · exact hg.elim
end
theorem ok_of_wpSH {P : Program} {tt : TT} {E : Env} (htt : TtOk P tt) {g : Nat} {fn : Func} {c : Code} (hf : FnOk P g fn c) {s : Spec}
    (h : ∀ args H v H' o, s args H = some (v, H', o) → holds o →
      ∃ H1, HLe H H1 ∧ wpS P ⟨tt, E, H.length⟩ c (finE tt fn.results.toList H.length v H') (args ++ List.replicate (fn.ntmps - args.length) .n) H1) : Ok P g (hspec s) := by
  intro args H v H' o hs ho μ W w vs hW hH hr
  have hlen : (H.map nrmB).length = H.length := by simp
  have hH2 := hH.le (HLe.nrmB H)
  refine .inl ⟨callFunc_run hf _ _, calls_of_wp hf.at_ hf.body ?_⟩
  obtain ⟨H1, hl, hwp⟩ := h _ _ v H' o hs ho
  rw [List.length_map (f := nrm), hlen] at hwp
  have hr2 : relL (relV μ (H.map nrmB).length) args vs := by rw [hlen]; exact hr
  have hst := start_ok (n := fn.ntmps) hW hH2 hr2 hl
  rw [hlen] at hst
  exact hwp.run hst (fin_post htt)
end Go.Proofs.YteifneielgnniaaGreatDoor.Sh
namespace Go.Proofs.YteifneielgnniaaGreatDoor.Sh
open Go Go.ChangeShapes Go.WideShapes Go.RowKit
/-- WHAT A LAW'S CALL GIVES: behind 'returnsInHanded_of_row' -/
theorem law_post {P : Program} {f : FuncId} {fn : Func} {c : Code} {s : ChangeSpec} {apart fresh handsOn : Bool} {H : Type} {enc : TypeId × Value → H}
    (hf : FnOk P f fn c)
    (ls : LawSpec s fn.params.size) {tb : TypeId} (hres : fn.resultTypes = #[tb]) (htb : P.underlying tb = some .bool)
    (rd : fn.params.toList.all (fun t => P.readableRec t && decide (t < P.types.size)) = true) (hl : laidOutB P = true)
    {sp : Spec} (hok : Ok P f sp)
    {W : World} {args : Array Value} {ds gs : List (DataW H)} {before : List MemPlace}
    (htab : ∀ t ∈ tabCells, t.1 < W.heap.size ∧ ∃ v, W.cell? ⟨t.1, t.2.1, none⟩ = some v ∧ t.2.2 v)
    (hW : DataW.Whole enc P fn.params.toList s.vars apart W args.toList ds gs before)
    (hopen : ∀ (p : List MemPlace), DataW.TrodAll enc P W 0 (fun _ => true) true fn.params.toList args.toList ds p →
      ∃ abs Hp H' o μ, sp abs Hp = some (.c (.b (.l true)), H', o) ∧ holds o ∧ HRel μ (fun k => W.heap.size ≤ k) Hp W ∧ relL (relV μ Hp.length) abs args.toList) :
    Calls P f args W fun e W' => ∃ v, e = .returned v ∧ s.post enc P fn apart fresh handsOn false W args v W' := by
  have hW' := hW
  obtain ⟨p, q, hA, hV, rfl, hfz, hnd⟩ := hW
  rw [ls.vars] at hV
  have hgs : gs = [] ∧ q = [] := by
    cases gs with
    | nil => exact ⟨rfl, hV⟩
    | cons _ _ => exact hV.elim
  obtain ⟨rfl, rfl⟩ := hgs
  obtain ⟨abs, Hp, H', o, μ, h1, h2, h3, h4⟩ := hopen p hA
  have hc := law_calls hf hok h1 h2 htab h3 h4
  refine hc.mono fun e W' ⟨he, hb⟩ => ⟨.bool true, he, ?_⟩
  have hlen : ds.length = fn.params.size := by simpa using (trodAll_len hA).1
  obtain ⟨r1, r2, r3⟩ := ls.fn H ds hlen
  have hlt : ∀ x ∈ p, x.block < W.heap.size := fun x hx => hW'.lt x (by simp [hx])
  have hrd : ∀ t ∈ fn.params.toList, P.readableRec t = true ∧ t < P.types.size := fun t ht => by
    have := List.all_eq_true.1 rd t ht
    simpa using this
  have hR : ∀ (b : Nat) (sp : Nat → Bool) (hd : Bool), DataW.TrodAll enc P W' b sp hd fn.resultTypes.toList ((Value.bool true).resultList fn.resultTypes.size) [.lit (.bool true)] [] := fun b sp hd => by
    rw [hres]
    exact ⟨[], [], ⟨1, by simp [DataW.trod, Value.cells, htb]⟩, rfl, rfl⟩
  refine ⟨ds, [], p ++ [], [], p, [], hW', ?_, ?_, ?_, ?_, fun h => by cases h⟩
  · rw [List.append_nil, r1]; exact hR _ _ _
  · rw [List.append_nil, r2]; exact trodAll_stays hl hrd hA hb hlt fun x hx => by simpa using hlt x hx
  · rw [List.append_nil, r3, ls.vars]; rfl
  · exact World.keptBut_mono (fun x hx => ⟨hx, .inr (.inl (by simpa using hx))⟩) (hb.frame (· ∈ p ++ []))
end Go.Proofs.YteifneielgnniaaGreatDoor.Sh
