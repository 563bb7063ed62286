/- What what the law of adjustments needs of this seat compute, each shown once. No condition. -/
import Derived.Test.YtanndlifpojenaaVp
set_option linter.unusedVariables false
set_option linter.unusedSimpArgs false
set_option linter.unusedSectionVars false
namespace Go.Proofs.Ytanndlifpojenaa.Sh
open Go Go.Proofs
section
theorem px_of {r : Nat} (h : r < 801) : fop .sub .f32 (zx0 r) (mnX r) = 3259498496 ∧ fop .sub .f32 (zx1 r) (mnX r) = 1112014848 ∧ fop .mul .f32 0 (mnX r) = 0 ∧ fop .sub .f32 1112014848 (fop .sub .f32 (fop .mul .f32 1065353216 (mnX r)) 0) = ngX r := by
  have := allR_at d_px h
  unfold okPX at this
  simp only [Bool.and_eq_true, beq_iff_eq] at this
  exact ⟨this.1.1.1, this.1.1.2, this.1.2, this.2⟩
theorem py_of {r : Nat} (h : r < 801) : fop .sub .f32 (zx0 r) (mnY r) = 3256877056 ∧ fop .sub .f32 (zy1 r) (mnY r) = 1109393408 ∧ fop .mul .f32 0 (mnY r) = 0 ∧ fop .sub .f32 1109393408 (fop .add .f32 (fop .mul .f32 1065353216 (mnY r)) 0) = ngX r := by
  have := allR_at d_py h
  unfold okPY at this
  simp only [Bool.and_eq_true, beq_iff_eq] at this
  exact ⟨this.1.1.1, this.1.1.2, this.1.2, this.2⟩
theorem ng_of {r : Nat} (h : r < 801) : finX (ngX r) = true ∧ fcmp .eql .f32 (ngX r) (ngX r) = true := by
  have := allR_at d_ng h
  unfold okN at this
  exact Bool.and_eq_true_iff.1 this
theorem pm_of {a : Nat} (h : pmZ a = true) : a = 0 ∨ a = 2147483648 := by
  unfold pmZ at h
  simpa using h
attribute [local irreducible] fop fcmp
section
variable {c ra rb : Nat} (hc : 1 ≤ c ∧ c ≤ 3)
include hc
theorem row_mv (m : M) : at2 (movedS c m) (0 + c * 4) = plusM (cnr 0) m ∧ at2 (movedS c m) (0 + c * 4 + 1) = plusM (cnr 1) m ∧ at2 (movedS c m) (0 + c * 4 + 2) = plusM (cnr 2) m ∧ at2 (movedS c m) (0 + c * 4 + 3) = plusM (cnr 3) m := by
  have : c = 1 ∨ c = 2 ∨ c = 3 := by omega
  rcases this with rfl | rfl | rfl <;> exact ⟨rfl, rfl, rfl, rfl⟩
theorem row_0 (m : M) : at2 (movedS c m) 0 = cnr 0 ∧ at2 (movedS c m) 1 = cnr 1 ∧ at2 (movedS c m) 2 = cnr 2 ∧ at2 (movedS c m) 3 = cnr 3 := by
  have : c = 1 ∨ c = 2 ∨ c = 3 := by omega
  rcases this with rfl | rfl | rfl <;> exact ⟨rfl, rfl, rfl, rfl⟩
theorem fzP_c : fzP (movedS c (q16 ra, q16 rb)) c = (mnX ra, mnY rb) := by
  obtain ⟨h0, h1, h2, h3⟩ := row_mv hc (q16 ra, q16 rb)
  unfold fzP
  rw [h0, h1, h2, h3]
  rfl
theorem fzP_0 (m : M) : fzP (movedS c m) 0 = meanM (cnr 0) (cnr 1) (cnr 2) (cnr 3) := by
  obtain ⟨h0, h1, h2, h3⟩ := row_0 hc m
  show meanM (at2 (movedS c m) 0) (at2 (movedS c m) 1) (at2 (movedS c m) 2) (at2 (movedS c m) 3) = _
  rw [h0, h1, h2, h3]
end
theorem mean_cnr : meanM (cnr 0) (cnr 1) (cnr 2) (cnr 3) = (1112014848, 1109393408) := by decide +kernel
def zC (k : Nat) : M := ([((3259498496 : Nat), (3256877056 : Nat)), (1112014848, 3256877056), (1112014848, 1109393408), (3259498496, 1109393408)] : List M).getD k (0, 0)
section
variable {c ra rb : Nat} (hc : 1 ≤ c ∧ c ≤ 3) (ha : ra < 801) (hb : rb < 801)
include hc
theorem fw_m (m : M) : ∀ k, k < 4 → fw (movedS c m) k = minusM (cnr k) (1112014848, 1109393408) := by
  intro k hk
  obtain ⟨h0, h1, h2, h3⟩ := row_0 hc m
  unfold fw
  rw [fzP_0 hc, mean_cnr]
  match k, hk with
  | 0, _ => rw [h0]
  | 1, _ => rw [h1]
  | 2, _ => rw [h2]
  | 3, _ => rw [h3]
include ha hb
theorem fz_m : ∀ k, k < 4 → fz (movedS c (q16 ra, q16 rb)) c k = zC k := by
  intro k hk
  obtain ⟨h0, h1, h2, h3⟩ := row_mv hc (q16 ra, q16 rb)
  obtain ⟨x0, x1, _, _⟩ := px_of ha
  obtain ⟨y0, y1, _, _⟩ := py_of hb
  unfold fz
  rw [fzP_c hc]
  match k, hk with
  | 0, _ => show minusM (at2 _ (0 + c * 4)) _ = _; rw [h0]; show (fop .sub .f32 (zx0 ra) (mnX ra), fop .sub .f32 (zx0 rb) (mnY rb)) = _; rw [x0, y0]; rfl
  | 1, _ => rw [h1]; show (fop .sub .f32 (zx1 ra) (mnX ra), fop .sub .f32 (zx0 rb) (mnY rb)) = _; rw [x1, y0]; rfl
  | 2, _ => rw [h2]; show (fop .sub .f32 (zx1 ra) (mnX ra), fop .sub .f32 (zy1 rb) (mnY rb)) = _; rw [x1, y1]; rfl
  | 3, _ => rw [h3]; show (fop .sub .f32 (zx0 ra) (mnX ra), fop .sub .f32 (zy1 rb) (mnY rb)) = _; rw [x0, y1]; rfl
theorem fone_m (k : Nat) (hk : k < 4) : fone (movedS c (q16 ra, q16 rb)) c k = timesM (minusM (cnr k) (1112014848, 1109393408)) ((zC k).1, fneg .f32 (zC k).2) := by
  unfold fone
  rw [fw_m hc _ k hk, fz_m hc ha hb k hk]
def oneC (k : Nat) : M := timesM (minusM (cnr k) (1112014848, 1109393408)) ((zC k).1, fneg .f32 (zC k).2)
omit hc ha hb in
theorem sums : overM (plusM (plusM (plusM (oneC 0) (oneC 1)) (oneC 2)) (oneC 3)) (fop .add .f32 (fop .add .f32 (fop .add .f32 (sqM (zC 0)) (sqM (zC 1))) (sqM (zC 2))) (sqM (zC 3))) = (1065353216, 0) ∧ fcmp .gtr .f32 (fop .add .f32 (fop .add .f32 (fop .add .f32 (sqM (zC 0)) (sqM (zC 1))) (sqM (zC 2))) (sqM (zC 3))) 0 = true ∧ finX 1065353216 = true ∧ finX 0 = true ∧ fcmp .eql .f32 1065353216 1065353216 = true ∧ fcmp .eql .f32 0 0 = true := by decide +kernel
theorem fD_m : fD (movedS c (q16 ra, q16 rb)) c 3 = fop .add .f32 (fop .add .f32 (fop .add .f32 (sqM (zC 0)) (sqM (zC 1))) (sqM (zC 2))) (sqM (zC 3)) := by
  show fop .add .f32 (fop .add .f32 (fop .add .f32 (sqM (fz _ c 0)) (sqM (fz _ c 1))) (sqM (fz _ c 2))) (sqM (fz _ c 3)) = _
  rw [fz_m hc ha hb 0 (by decide), fz_m hc ha hb 1 (by decide), fz_m hc ha hb 2 (by decide), fz_m hc ha hb 3 (by decide)]
theorem fTurn_m : fTurn (movedS c (q16 ra, q16 rb)) c = (1065353216, 0) := by
  unfold fTurn
  rw [fD_m hc ha hb]
  show overM (plusM (plusM (plusM (fone _ c 0) (fone _ c 1)) (fone _ c 2)) (fone _ c 3)) _ = _
  rw [fone_m hc ha hb 0 (by decide), fone_m hc ha hb 1 (by decide), fone_m hc ha hb 2 (by decide), fone_m hc ha hb 3 (by decide)]
  exact sums.1
theorem fMove_m : fMove (movedS c (q16 ra, q16 rb)) c = (ngX ra, ngX rb) := by
  obtain ⟨_, _, x2, x3⟩ := px_of ha
  obtain ⟨_, _, y2, y3⟩ := py_of hb
  unfold fMove
  rw [fzP_0 hc, mean_cnr, fzP_c hc, fTurn_m hc ha hb]
  show (fop .sub .f32 1112014848 (fop .sub .f32 (fop .mul .f32 1065353216 (mnX ra)) (fop .mul .f32 0 (mnY rb))), fop .sub .f32 1109393408 (fop .add .f32 (fop .mul .f32 1065353216 (mnY rb)) (fop .mul .f32 0 (mnX ra)))) = _
  rw [x2, y2, x3, y3]
theorem fit_moved : fitR (movedS c (q16 ra, q16 rb)) c = (((1065353216, 0), (ngX ra, ngX rb)), 0) := by
  have h1 := fTurn_m hc ha hb
  have h2 := fMove_m hc ha hb
  have h := fit_ok (l := movedS c (q16 ra, q16 rb)) (c := c) (by rw [fD_m hc ha hb]; exact sums.2.1) (by rw [h1]; exact sums.2.2.1) (by rw [h1]; exact sums.2.2.2.1) (by rw [h2]; exact (ng_of ha).1) (by rw [h2]; exact (ng_of hb).1)
  rw [h, h1, h2]
end
/-! and it brings it back -/
theorem bx_of {c r s : Nat} (h : bkX c r = true) (hs : s = 0 ∨ s = 2147483648) : fop .add .f32 (fop .sub .f32 (fop .mul .f32 1065353216 (fop .add .f32 c (q16 r))) s) (ngX r) = c := by
  unfold bkX at h
  simp only [Bool.and_eq_true, beq_iff_eq] at h
  rcases hs with rfl | rfl
  · exact h.1
  · exact h.2
theorem by_of {c r s : Nat} (h : bkY c r = true) (hs : s = 0 ∨ s = 2147483648) : fop .add .f32 (fop .add .f32 (fop .mul .f32 1065353216 (fop .add .f32 c (q16 r))) s) (ngX r) = c := by
  unfold bkY at h
  simp only [Bool.and_eq_true, beq_iff_eq] at h
  rcases hs with rfl | rfl
  · exact h.1
  · exact h.2
theorem adj_cnr {ra rb : Nat} (ha : ra < 801) (hb : rb < 801) : ∀ k, k < 4 → adjM (1065353216, 0) (ngX ra, ngX rb) (plusM (cnr k) (q16 ra, q16 rb)) = cnr k := by
  have key : ∀ cx cy : Nat, bkX cx ra = true → bkY cy rb = true → okZ cx ra = true → okZ cy rb = true → adjM (1065353216, 0) (ngX ra, ngX rb) (plusM (cx, cy) (q16 ra, q16 rb)) = (cx, cy) := by
    intro cx cy h1 h2 h3 h4
    show (fop .add .f32 (fop .sub .f32 (fop .mul .f32 1065353216 (fop .add .f32 cx (q16 ra))) (fop .mul .f32 0 (fop .add .f32 cy (q16 rb)))) (ngX ra), fop .add .f32 (fop .add .f32 (fop .mul .f32 1065353216 (fop .add .f32 cy (q16 rb))) (fop .mul .f32 0 (fop .add .f32 cx (q16 ra)))) (ngX rb)) = _
    rw [bx_of h1 (pm_of h4), by_of h2 (pm_of h3)]
  intro k hk
  match k, hk with
  | 0, _ => exact key 0 0 (allR_at d_bx0 ha) (allR_at d_by0 hb) (allR_at d_z0 ha) (allR_at d_z0 hb)
  | 1, _ => exact key 1120403456 0 (allR_at d_bx1 ha) (allR_at d_by0 hb) (allR_at d_z1 ha) (allR_at d_z0 hb)
  | 2, _ => exact key 1120403456 1117782016 (allR_at d_bx1 ha) (allR_at d_by1 hb) (allR_at d_z1 ha) (allR_at d_z2 hb)
  | 3, _ => exact key 0 1117782016 (allR_at d_bx0 ha) (allR_at d_by1 hb) (allR_at d_z0 ha) (allR_at d_z2 hb)
theorem adj_back {c ra rb : Nat} (hc : 1 ≤ c ∧ c ≤ 3) (ha : ra < 801) (hb : rb < 801) : adjS (movedS c (q16 ra, q16 rb)) c (1065353216, 0) (ngX ra, ngX rb) = baseS := by
  have h0 := adj_cnr ha hb 0 (by decide)
  have h1 := adj_cnr ha hb 1 (by decide)
  have h2 := adj_cnr ha hb 2 (by decide)
  have h3 := adj_cnr ha hb 3 (by decide)
  generalize hg : adjM (1065353216, 0) (ngX ra, ngX rb) = g at h0 h1 h2 h3
  unfold adjS
  rw [hg]
  generalize (q16 ra, q16 rb) = m at h0 h1 h2 h3 ⊢
  have : c = 1 ∨ c = 2 ∨ c = 3 := by omega
  rcases this with rfl | rfl | rfl
  · show [cnr 0, cnr 1, cnr 2, cnr 3, g (plusM (cnr 0) m), g (plusM (cnr 1) m), g (plusM (cnr 2) m), g (plusM (cnr 3) m), cnr 0, cnr 1, cnr 2, cnr 3, cnr 0, cnr 1, cnr 2, cnr 3] = _
    rw [h0, h1, h2, h3]; rfl
  · show [cnr 0, cnr 1, cnr 2, cnr 3, cnr 0, cnr 1, cnr 2, cnr 3, g (plusM (cnr 0) m), g (plusM (cnr 1) m), g (plusM (cnr 2) m), g (plusM (cnr 3) m), cnr 0, cnr 1, cnr 2, cnr 3] = _
    rw [h0, h1, h2, h3]; rfl
  · show [cnr 0, cnr 1, cnr 2, cnr 3, cnr 0, cnr 1, cnr 2, cnr 3, cnr 0, cnr 1, cnr 2, cnr 3, g (plusM (cnr 0) m), g (plusM (cnr 1) m), g (plusM (cnr 2) m), g (plusM (cnr 3) m)] = _
    rw [h0, h1, h2, h3]; rfl
end
section
attribute [local irreducible] fop fcmp
theorem eql_w16 {n : Int} (h : n.natAbs < 16777216) : fcmp .eql .f32 (w16 n) (w16 n) = true := by
  obtain ⟨a, ha⟩ := read_w16 h
  have ha : FloatKind.f32.format.read (w16 n) = .number (decide (n < 0)) (n.natAbs <<< a) (-4 - a) := ha
  unfold fcmp Ieee.Format.order
  rw [ha]
  simp [Ieee.Datum.order, compare, compareOfLessAndEq]
/-- a sixteenth as the sheets have them -/
def gridX (x : Nat) : Prop := ∃ n : Int, -400 ≤ n ∧ n ≤ 2000 ∧ x = w16 n
def gridM (m : M) : Prop := gridX m.1 ∧ gridX m.2
theorem q16_w {r : Nat} (h : r < 801) : q16 r = w16 ((r : Int) - 400) := beq_iff_eq.1 (allR_at d_q16w h)
theorem ngX_w {r : Nat} (h : r < 801) : fop .sub .f32 0 (q16 r) = w16 (400 - (r : Int)) := beq_iff_eq.1 (allR_at d_ngw h)
theorem okX_w {n : Int} (h0 : -800 ≤ n) (h1 : n ≤ 2400) : okX (w16 n) = true := by
  have := allR_at d_okw (i := (n + 800).toNat) (by omega)
  rw [show (((n + 800).toNat : Nat) : Int) - 800 = n by omega] at this
  exact this
theorem grid_q {r : Nat} (h : r < 801) : gridX (q16 r) := ⟨(r : Int) - 400, by omega, by omega, q16_w h⟩
theorem grid_0 : gridX 0 := ⟨0, by omega, by omega, w16_c.1.symm⟩
theorem drawn_grid {m : M} (h : drawnM m) : gridM m := by
  obtain ⟨a, b, ha, hb, rfl⟩ := h
  exact ⟨grid_q ha, grid_q hb⟩
theorem add_grid {c k : Int} {r : Nat} (hr : r < 801) (hk : 0 ≤ k ∧ k ≤ 1600) {w : Nat} (hw : w = w16 k) : gridX (fop .add .f32 w (q16 r)) := by
  rw [hw, q16_w hr, add_w16 (by omega) (by omega)]
  exact ⟨_, by omega, by omega, rfl⟩
theorem cnr_grid : ∀ k, gridM (cnr k)
  | 0 => ⟨grid_0, grid_0⟩
  | 1 => ⟨⟨1600, by omega, by omega, w16_c.2.1.symm⟩, grid_0⟩
  | 2 => ⟨⟨1600, by omega, by omega, w16_c.2.1.symm⟩, ⟨1280, by omega, by omega, w16_c.2.2.symm⟩⟩
  | 3 => ⟨grid_0, ⟨1280, by omega, by omega, w16_c.2.2.symm⟩⟩
  | _ + 4 => ⟨grid_0, grid_0⟩
theorem plus_grid {m : M} (h : drawnM m) : ∀ k, gridM (plusM (cnr k) m) := by
  obtain ⟨a, b, ha, hb, rfl⟩ := h
  have e0 : ∀ {r : Nat}, r < 801 → gridX (fop .add .f32 0 (q16 r)) := fun hr => add_grid (c := 0) (k := 0) hr (by omega) w16_c.1.symm
  have e1 : ∀ {r : Nat}, r < 801 → gridX (fop .add .f32 1120403456 (q16 r)) := fun hr => add_grid (c := 0) (k := 1600) hr (by omega) w16_c.2.1.symm
  have e2 : ∀ {r : Nat}, r < 801 → gridX (fop .add .f32 1117782016 (q16 r)) := fun hr => add_grid (c := 0) (k := 1280) hr (by omega) w16_c.2.2.symm
  intro k
  match k with
  | 0 => exact ⟨e0 ha, e0 hb⟩
  | 1 => exact ⟨e1 ha, e0 hb⟩
  | 2 => exact ⟨e1 ha, e2 hb⟩
  | 3 => exact ⟨e0 ha, e2 hb⟩
  | k + 4 => exact ⟨e0 ha, e0 hb⟩
theorem cell_grid {L : List Int} (h : bytesOk L) {off : M} (ho : drawnM off) {c k : Nat} (q : Int × Int) : gridM (cellV L q (cellB off c k)) := by
  unfold cellV cellB
  split
  · exact drawn_grid (dm_drawn h _)
  · split
    · exact plus_grid ho k
    · exact cnr_grid k
theorem zero_grid : gridM (0, 0) := ⟨grid_0, grid_0⟩
theorem set_grid {l : List M} {i : Nat} {m : M} (h : ∀ j, gridM (at2 l j)) (hm : gridM m) : ∀ j, gridM (at2 (l.set i m) j) := by
  intro j
  show gridM ((l.set i m).getD j (0, 0))
  rw [List.getD_eq_getElem?_getD, List.getElem?_set]
  split
  · rename_i e
    subst e
    split
    · exact hm
    · exact zero_grid
  · rw [← List.getD_eq_getElem?_getD]; exact h j
theorem rowI_grid {L : List Int} (h : bytesOk L) {off : M} (ho : drawnM off) {c : Nat} {q : Int × Int} {l : List M} (hl : ∀ j, gridM (at2 l j)) : ∀ k, ∀ j, gridM (at2 (rowI L off c q l k).2 j)
  | 0 => hl
  | k + 1 => set_grid (rowI_grid h ho hl k) (cell_grid h ho _)
theorem shI_grid {L : List Int} (h : bytesOk L) (q : Int × Int) : ∀ c, ∀ j, gridM (at2 (shI L q c).2 j)
  | 0 => fun j => by
    show gridM (noS.getD j (0, 0))
    rw [noS_get]; exact zero_grid
  | c + 1 => rowI_grid h (dm_drawn h _) (shI_grid h q c) 4
theorem shL_grid {L : List Int} (h : bytesOk L) (q : Int × Int) : ∀ j, gridM (at2 (shL L q) j) := by
  unfold shL same4
  split
  · have h4 := shI_grid h q 4
    exact set_grid (set_grid (set_grid (set_grid h4 (h4 4)) (h4 4)) (h4 4)) (h4 4)
  · exact shI_grid h q 4
/-! ## there and back -/
theorem there_X {x : Nat} {r : Nat} (h : gridX x) (hr : r < 801) : fop .add .f32 (fop .add .f32 x (q16 r)) (fop .sub .f32 0 (q16 r)) = x ∧ okX (fop .add .f32 x (q16 r)) = true ∧ fcmp .eql .f32 x x = true := by
  obtain ⟨n, h0, h1, rfl⟩ := h
  rw [ngX_w hr, q16_w hr, add_w16 (by omega) (by omega), add_w16 (by omega) (by omega)]
  refine ⟨?_, okX_w (by omega) (by omega), eql_w16 (by omega)⟩
  congr 1
  omega
theorem there {m b : M} (h : gridM m) (hb : drawnM b) : plusM (plusM m b) (minusM (0, 0) b) = m ∧ okM (plusM m b) = true ∧ fcmp .eql .f32 m.1 m.1 = true ∧ fcmp .eql .f32 m.2 m.2 = true := by
  obtain ⟨a, c, ha, hc, rfl⟩ := hb
  obtain ⟨x1, x2, x3⟩ := there_X h.1 ha
  obtain ⟨y1, y2, y3⟩ := there_X h.2 hc
  refine ⟨?_, ?_, x3, y3⟩
  · show (fop .add .f32 (fop .add .f32 m.1 (q16 a)) (fop .sub .f32 0 (q16 a)), fop .add .f32 (fop .add .f32 m.2 (q16 c)) (fop .sub .f32 0 (q16 c))) = _
    rw [x1, y1]
  · show (okX (fop .add .f32 m.1 (q16 a)) && okX (fop .add .f32 m.2 (q16 c))) = true
    rw [x2, y2]; rfl
theorem mvTo_get (l : List M) (c : Nat) (f : M → M) : ∀ k i, at2 (mvTo l c f k) i = if c * 4 ≤ i ∧ i < c * 4 + k ∧ i < l.length then f (at2 l i) else at2 l i
  | 0, i => by rw [if_neg (by omega)]; rfl
  | k + 1, i => by
    show ((mvTo l c f k).set (c * 4 + k) (f (at2 l (c * 4 + k)))).getD i (0, 0) = _
    rw [List.getD_eq_getElem?_getD, List.getElem?_set, mvTo_len]
    by_cases e : c * 4 + k = i
    · subst e
      rw [if_pos rfl]
      by_cases hl : c * 4 + k < l.length
      · rw [if_pos hl, if_pos ⟨by omega, by omega, hl⟩]; rfl
      · rw [if_neg hl, if_neg (by omega)]
        show (0, 0) = l.getD _ (0, 0)
        rw [List.getD_eq_getElem?_getD, List.getElem?_eq_none (by omega)]; rfl
    · rw [if_neg e, ← List.getD_eq_getElem?_getD, show (mvTo l c f k).getD i (0, 0) = _ from mvTo_get l c f k i]
      by_cases h : c * 4 ≤ i ∧ i < c * 4 + k ∧ i < l.length
      · rw [if_pos h, if_pos ⟨h.1, by omega, h.2.2⟩]
      · rw [if_neg h, if_neg (by omega)]
theorem list_ext {p q : List M} (h : p.length = 16) (h' : q.length = 16) (he : ∀ i, i < 16 → at2 p i = at2 q i) : p = q := by
  apply List.ext_getElem (by omega)
  intro i h1 h2
  have := he i (by omega)
  simpa [at2, List.getD_eq_getElem?_getD, List.getElem?_eq_getElem h1, List.getElem?_eq_getElem h2] using this
theorem there_back {l : List M} {c : Nat} {b : M} (hl : l.length = 16) (hg : ∀ j, gridM (at2 l j)) (hb : drawnM b) : moveS (moveS l c b) c (minusM (0, 0) b) = l := by
  refine list_ext (by rw [moveS_len, moveS_len, hl]) hl fun i hi => ?_
  show at2 (mvTo (mvTo l c _ 4) c _ 4) i = _
  rw [mvTo_get, mvTo_get, mvTo_len]
  by_cases h : c * 4 ≤ i ∧ i < c * 4 + 4 ∧ i < l.length
  · rw [if_pos h, if_pos h]; exact (there (hg i) hb).1
  · rw [if_neg h, if_neg h]
theorem there_ok {l : List M} {c : Nat} {b : M} (hk : okS l = true) (hg : ∀ j, gridM (at2 l j)) (hb : drawnM b) : okS (moveS l c b) = true := by
  refine allI_all fun i hi => ?_
  show okM (at2 (mvTo l c _ 4) i) = true
  rw [mvTo_get]
  split
  · exact (there (hg i) hb).2.1
  · exact allI_at hk hi
end
section
theorem d_share : allR 33 (fun r => isIn (fop .quo .f32 (floatOfInt .f32 (r : Int)) 1098907648) 0 1073741824) = true := by decide +kernel
theorem cut_9_5 : cutR 5 (cutR 9 (bodyOf Try.f3)) = cutR 15 (bodyOf Try.f3) := by rfl
theorem sameSh_self (l : List M) : sameSh l l = true := allI_all fun i _ => sameM_self _
theorem ne_ffI {a b : Int} (h : a = b) : (a != b) = false := by subst h; simp
theorem leq_gtr {a b : Nat} (h : fcmp .leq .f32 a b = true) : fcmp .gtr .f32 a b = false := by
  unfold fcmp at *
  cases ho : FloatKind.f32.format.order a b with
  | none => rfl
  | some o => rw [ho] at h; cases o <;> simp_all
theorem corr_len {c sh w : Nat} : ∀ {m n : Nat} {l : List M}, l.length = 16 → (corrK c sh w m n l).2.2.length = 16
  | 0, n, l, h => by unfold corrK; split; exact h; rfl
  | m + 1, n, l, h => by
    unfold corrK
    split
    · exact h
    · split
      · exact corr_len (by rw [nextS_len]; exact h)
      · rfl
end
section
theorem big_ok {n : Nat} (h : ltB 4096 (n : Int) = false) : n ≤ 4096 := by have := ltB_no.1 h; omega
theorem d_within : allR 200 (fun r => isIn (fop .quo .f32 (floatOfInt .f32 (r : Int)) 1098907648) 0 1166016512 && (nnD (Ieee.single.read (fop .quo .f32 (floatOfInt .f32 (r : Int)) 1098907648)) && fcmp .leq .f32 0 (fop .quo .f32 (floatOfInt .f32 (r : Int)) 1098907648))) = true := by decide +kernel
theorem d_one : isIn 1065353216 0 1073741824 = true := by decide +kernel
theorem eta_base : [((baseS.getD 0 (0, 0)).1, (baseS.getD 0 (0, 0)).2), ((baseS.getD 1 (0, 0)).1, (baseS.getD 1 (0, 0)).2), ((baseS.getD 2 (0, 0)).1, (baseS.getD 2 (0, 0)).2), ((baseS.getD 3 (0, 0)).1, (baseS.getD 3 (0, 0)).2), ((baseS.getD 4 (0, 0)).1, (baseS.getD 4 (0, 0)).2), ((baseS.getD 5 (0, 0)).1, (baseS.getD 5 (0, 0)).2), ((baseS.getD 6 (0, 0)).1, (baseS.getD 6 (0, 0)).2), ((baseS.getD 7 (0, 0)).1, (baseS.getD 7 (0, 0)).2), ((baseS.getD 8 (0, 0)).1, (baseS.getD 8 (0, 0)).2), ((baseS.getD 9 (0, 0)).1, (baseS.getD 9 (0, 0)).2), ((baseS.getD 10 (0, 0)).1, (baseS.getD 10 (0, 0)).2), ((baseS.getD 11 (0, 0)).1, (baseS.getD 11 (0, 0)).2), ((baseS.getD 12 (0, 0)).1, (baseS.getD 12 (0, 0)).2), ((baseS.getD 13 (0, 0)).1, (baseS.getD 13 (0, 0)).2), ((baseS.getD 14 (0, 0)).1, (baseS.getD 14 (0, 0)).2), ((baseS.getD 15 (0, 0)).1, (baseS.getD 15 (0, 0)).2)] = baseS := eta16 (l := baseS) rfl
theorem base_at {rc : Nat} (h : rc < 3) : baseS.getD (0 + (1 + rc) * 4) (0, 0) = cnr 0 ∧ baseS.getD (0 + (1 + rc) * 4 + 1) (0, 0) = cnr 1 ∧ baseS.getD (0 + (1 + rc) * 4 + 2) (0, 0) = cnr 2 ∧ baseS.getD (0 + (1 + rc) * 4 + 3) (0, 0) = cnr 3 := by
  have h3 : rc = 0 ∨ rc = 1 ∨ rc = 2 := by omega
  rcases h3 with rfl | rfl | rfl <;> exact ⟨rfl, rfl, rfl, rfl⟩
theorem moved_at {rc : Nat} (h : rc < 3) (m : M) : (movedS (1 + rc) m).getD 0 (0, 0) = cnr 0 ∧ (movedS (1 + rc) m).getD 1 (0, 0) = cnr 1 ∧ (movedS (1 + rc) m).getD 2 (0, 0) = cnr 2 ∧ (movedS (1 + rc) m).getD 3 (0, 0) = cnr 3 := by
  have h3 : rc = 0 ∨ rc = 1 ∨ rc = 2 := by omega
  rcases h3 with rfl | rfl | rfl <;> exact ⟨rfl, rfl, rfl, rfl⟩
theorem cnr_self : ∀ j, j < 4 → fcmp .eql .f32 (cnr j).1 (cnr j).1 = true ∧ fcmp .eql .f32 (cnr j).2 (cnr j).2 = true
  | 0, _ => by decide +kernel
  | 1, _ => by decide +kernel
  | 2, _ => by decide +kernel
  | 3, _ => by decide +kernel
end
section
theorem fn34 : FnOk Try.prog 34 Try.f34 (bodyOf Try.f34) := ⟨Try.func34, rfl, by rfl⟩
def s34 : Spec := hspec fun args H => match args, H with
  | [.c (.f .f32 a), .c (.f .f32 b)], [] => some (vB (eqW (a ()) (b ())), [], [])
  | _, _ => none
def E34 : Env := fun g => envGetL [(90, ⟨true, s90, none⟩)] g
theorem E34ok : EnvOk Try.prog E34 := envOk_cons ok90 (envOk_nil _)
theorem ok34 : Ok Try.prog 34 (s34) := ok_of_wpaH (E := E34) mixed tts E34ok fn34 fun args H v H' o hs ho => by
  split at hs
  · rename_i a b
    cases hs
    refine ⟨_, HLe.refl _, ?_⟩
    cbv
    repeat' first
      | (refine Br.mk (fun h => ?_) (fun h => ?_) <;> cbv)
      | (refine Ob.mk ?_ ?_; rotate_left; cbv)
      | (refine Lex.mk (by decide +kernel) ?_; cbv)
    all_goals (try simp only [Unit.unit, Int.ofNat_lt, Int.ofNat_le, BE.val, IE.val, NE.val, ltB_iff, ltB_no, leB_iff, leB_no, Int.toNat_natCast, Nat.zero_add, Nat.add_zero, Nat.mul_one, forced, beq_iff_eq, beq_eq_false_iff_ne, bne_iff_ne, bne_eq_false_iff_eq] at *)
    all_goals first | with_reducible rfl | rfl
  · cases hs
theorem fn4 : FnOk Try.prog 4 Try.f4 (bodyOf Try.f4) := ⟨Try.func4, rfl, by rfl⟩
def E4 : Env := fun g => envGetL [(5, ⟨true, s5, none⟩), (6, ⟨true, s6, none⟩), (7, ⟨true, s7, none⟩), (8, ⟨true, s8, none⟩), (11, ⟨true, s11, none⟩), (12, ⟨true, s12, none⟩), (17, ⟨true, s17, none⟩), (18, ⟨true, s18, none⟩), (19, ⟨true, s19, none⟩), (20, ⟨true, s20, none⟩), (21, ⟨true, s21, none⟩), (22, ⟨true, s22, none⟩), (23, ⟨true, s23, none⟩), (24, ⟨true, s24, none⟩), (25, ⟨true, s25, none⟩), (26, ⟨true, s26, none⟩), (27, ⟨true, s27, none⟩), (28, ⟨true, s28, none⟩), (29, ⟨true, s29, none⟩), (30, ⟨true, s30, none⟩), (31, ⟨true, s31, none⟩), (32, ⟨true, s32, none⟩), (33, ⟨true, s33, none⟩), (34, ⟨true, s34, none⟩)] g
theorem E4ok : EnvOk Try.prog E4 := envOk_cons ok5 (envOk_cons ok6 (envOk_cons ok7 (envOk_cons ok8 (envOk_cons ok11 (envOk_cons ok12 (envOk_cons ok17 (envOk_cons ok18 (envOk_cons ok19 (envOk_cons ok20 (envOk_cons ok21 (envOk_cons ok22 (envOk_cons ok23 (envOk_cons ok24 (envOk_cons ok25 (envOk_cons ok26 (envOk_cons ok27 (envOk_cons ok28 (envOk_cons ok29 (envOk_cons ok30 (envOk_cons ok31 (envOk_cons ok32 (envOk_cons ok33 (envOk_cons ok34 (envOk_nil _))))))))))))))))))))))))
theorem cut_18_4 : cutR 4 (cutR 18 (bodyOf Try.f4)) = cutR 23 (bodyOf Try.f4) := by rfl
theorem cut_8_9 : cutR 9 (cutR 8 (bodyOf Try.f4)) = cutR 18 (bodyOf Try.f4) := by rfl
end
end Go.Proofs.Ytanndlifpojenaa.Sh
