/- What the drawn sheets of this seat compute, each shown once. No condition. -/
import Derived.Test.YtanndlifpojenaaVe
set_option linter.unusedVariables false
set_option linter.unusedSimpArgs false
set_option linter.unusedSectionVars false
namespace Go.Proofs.Ytanndlifpojenaa.Sh
open Go Go.Proofs
section
def cellB (off : M) (c k : Nat) : M := if 0 < c then plusM (cnr k) off else cnr k
def cellV (L : List Int) (q : Int × Int) (b : M) : M := if pkV L 4 q == 0 then dmM L (pkQ L 4 q) else b
def cellQ (L : List Int) (q : Int × Int) : Int × Int := if pkV L 4 q == 0 then dmQ L (pkQ L 4 q) else pkQ L 4 q
/-- a row: so many of its cells -/
def rowI (L : List Int) (off : M) (c : Nat) (q : Int × Int) (l : List M) : Nat → (Int × Int) × List M
  | 0 => (q, l)
  | k + 1 => (cellQ L (rowI L off c q l k).1, (rowI L off c q l k).2.set (c * 4 + k) (cellV L (rowI L off c q l k).1 (cellB off c k)))
def shI (L : List Int) (q : Int × Int) : Nat → (Int × Int) × List M
  | 0 => (q, noS)
  | c + 1 => rowI L (dmM L (shI L q c).1) c (dmQ L (shI L q c).1) (shI L q c).2 4
def shQ (L : List Int) (q : Int × Int) : Int × Int := pkQ L 12 (shI L q 4).1
def same4 (l : List M) : List M := (((l.set 4 (at2 l 4)).set 5 (at2 l 4)).set 6 (at2 l 4)).set 7 (at2 l 4)
def shL (L : List Int) (q : Int × Int) : List M := if pkV L 12 (shI L q 4).1 == 0 then same4 (shI L q 4).2 else (shI L q 4).2
theorem rowI_len (L : List Int) (off : M) (c : Nat) (q : Int × Int) (l : List M) : ∀ k, (rowI L off c q l k).2.length = l.length
  | 0 => rfl
  | k + 1 => by unfold rowI; rw [List.length_set, rowI_len L off c q l k]
theorem shI_len (L : List Int) (q : Int × Int) : ∀ c, (shI L q c).2.length = 16
  | 0 => rfl
  | c + 1 => by unfold shI; rw [rowI_len, shI_len L q c]
theorem shL_len (L : List Int) (q : Int × Int) : (shL L q).length = 16 := by
  unfold shL same4
  split
  · simp only [List.length_set]; exact shI_len L q 4
  · exact shI_len L q 4
theorem cellQ_in {N : Int} {L : List Int} {q : Int × Int} (h : qIn N q) : qIn (N + 6) (cellQ L q) := by
  unfold cellQ
  split
  · exact qIn_le (dmQ_in (qIn_pk h)) (by omega)
  · exact qIn_le (qIn_pk h) (by omega)
theorem rowI_in {N : Int} {L : List Int} {off : M} {c : Nat} {q : Int × Int} {l : List M} (h : qIn N q) : ∀ k : Nat, qIn (N + 6 * (k : Int)) (rowI L off c q l k).1
  | 0 => qIn_le h (by omega)
  | k + 1 => qIn_le (cellQ_in (rowI_in h k)) (by omega)
theorem shI_in {N : Int} {L : List Int} {q : Int × Int} (h : qIn N q) : ∀ c : Nat, qIn (N + 28 * (c : Int)) (shI L q c).1
  | 0 => qIn_le h (by omega)
  | c + 1 => qIn_le (rowI_in (dmQ_in (shI_in h c)) 4) (by omega)
/-! ## drawn sheets are valid -/
def okMark (m : M) : Prop := okM m = true
theorem dm_drawn {L : List Int} (h : bytesOk L) (q : Int × Int) : drawnM (dmM L q) := by
  have h1 := pkV_bd h (k := 801) (by decide) q
  have h2 := pkV_bd h (k := 801) (by decide) (pkQ L 801 q)
  have key : ∀ x : Int, 0 ≤ x → x < 801 → fop .quo .f32 (floatOfInt .f32 (IntKind.wrap .i64 (x - 400))) 1098907648 = q16 x.toNat := by
    intro x h0 h8
    unfold q16
    rw [wrap64 (by omega) (by omega), Int.toNat_of_nonneg h0]
  exact ⟨(pkV L 801 q).toNat, (pkV L 801 (pkQ L 801 q)).toNat, by omega, by omega, by
    show (dmX L q, dmX L (pkQ L 801 q)) = _
    unfold dmX
    rw [key _ h1.1 h1.2, key _ h2.1 h2.2]⟩
theorem drawn_ok {m : M} (h : drawnM m) : okM m = true := by
  obtain ⟨a, b, ha, hb, rfl⟩ := h
  show (okX (q16 a) && okX (q16 b)) = true
  rw [allR_at d_okq ha, allR_at d_okq hb]; rfl
theorem cnr_ok (k : Nat) : okM (cnr k) = true := by
  match k with
  | 0 => decide +kernel
  | 1 => decide +kernel
  | 2 => decide +kernel
  | 3 => decide +kernel
  | k + 4 => exact (by decide +kernel : okM (0, 0) = true)
theorem cell_ok {L : List Int} (h : bytesOk L) {off : M} (ho : drawnM off) {c k : Nat} (hk : k < 4) (q : Int × Int) : okM (cellV L q (cellB off c k)) = true := by
  unfold cellV cellB
  split
  · exact drawn_ok (dm_drawn h _)
  · split
    · exact (mv_cnr ho k hk).2.2
    · exact cnr_ok k
theorem set_ok {l : List M} {i : Nat} {m : M} (h : ∀ j, okM (at2 l j) = true) (hm : okM m = true) : ∀ j, okM (at2 (l.set i m) j) = true := by
  intro j
  show okM ((l.set i m).getD j (0, 0)) = true
  rw [List.getD_eq_getElem?_getD, List.getElem?_set]
  split
  · rename_i e
    subst e
    split
    · exact hm
    · exact (by decide +kernel : okM (0, 0) = true)
  · rw [← List.getD_eq_getElem?_getD]; exact h j
theorem rowI_ok {L : List Int} (h : bytesOk L) {off : M} (ho : drawnM off) {c : Nat} {q : Int × Int} {l : List M} (hl : ∀ j, okM (at2 l j) = true) : ∀ k, k ≤ 4 → ∀ j, okM (at2 (rowI L off c q l k).2 j) = true
  | 0, _ => hl
  | k + 1, hk => set_ok (rowI_ok h ho hl k (by omega)) (cell_ok h ho (by omega) _)
theorem shI_ok {L : List Int} (h : bytesOk L) (q : Int × Int) : ∀ c, ∀ j, okM (at2 (shI L q c).2 j) = true
  | 0 => fun j => by
    show okM (noS.getD j (0, 0)) = true
    rw [noS_get]; decide +kernel
  | c + 1 => rowI_ok h (dm_drawn h _) (shI_ok h q c) 4 (Nat.le_refl _)
theorem shL_ok {L : List Int} (h : bytesOk L) (q : Int × Int) : okS (shL L q) = true := by
  refine allI_all fun i _ => ?_
  unfold shL same4
  split
  · have h4 := shI_ok h q 4
    exact set_ok (set_ok (set_ok (set_ok h4 (h4 4)) (h4 4)) (h4 4)) (h4 4) i
  · exact shI_ok h q 4 i
end
section
theorem kj_lt4 {k : Nat} (h : k < 4) : ltB (k : Int) 4 = true := by rw [ltB_iff]; omega
theorem kj_ge4 {k : Nat} (h : ¬ k < 4) : ltB (k : Int) 4 = false := by rw [ltB_no]; omega
theorem fn50 : FnOk Try.prog 50 Try.f50 (bodyOf Try.f50) := ⟨Try.func50, rfl, by rfl⟩
def s50 : Spec := hspec fun args H => match args, H with
  | [.c (.p 0 (.l 0))], [some ⟨true, 0, .lit [.sl 1 (.x o) (.x n), .i .i64 (.x a), .i .u64 (.x s)]⟩, some ⟨false, 0, .it .u8 L⟩] => some (.a [.z .f32 (fun _ => ((shL (L ()) (a (), s ())).getD 0 (0, 0)).1) (fun _ => ((shL (L ()) (a (), s ())).getD 0 (0, 0)).2), .z .f32 (fun _ => ((shL (L ()) (a (), s ())).getD 1 (0, 0)).1) (fun _ => ((shL (L ()) (a (), s ())).getD 1 (0, 0)).2), .z .f32 (fun _ => ((shL (L ()) (a (), s ())).getD 2 (0, 0)).1) (fun _ => ((shL (L ()) (a (), s ())).getD 2 (0, 0)).2), .z .f32 (fun _ => ((shL (L ()) (a (), s ())).getD 3 (0, 0)).1) (fun _ => ((shL (L ()) (a (), s ())).getD 3 (0, 0)).2), .z .f32 (fun _ => ((shL (L ()) (a (), s ())).getD 4 (0, 0)).1) (fun _ => ((shL (L ()) (a (), s ())).getD 4 (0, 0)).2), .z .f32 (fun _ => ((shL (L ()) (a (), s ())).getD 5 (0, 0)).1) (fun _ => ((shL (L ()) (a (), s ())).getD 5 (0, 0)).2), .z .f32 (fun _ => ((shL (L ()) (a (), s ())).getD 6 (0, 0)).1) (fun _ => ((shL (L ()) (a (), s ())).getD 6 (0, 0)).2), .z .f32 (fun _ => ((shL (L ()) (a (), s ())).getD 7 (0, 0)).1) (fun _ => ((shL (L ()) (a (), s ())).getD 7 (0, 0)).2), .z .f32 (fun _ => ((shL (L ()) (a (), s ())).getD 8 (0, 0)).1) (fun _ => ((shL (L ()) (a (), s ())).getD 8 (0, 0)).2), .z .f32 (fun _ => ((shL (L ()) (a (), s ())).getD 9 (0, 0)).1) (fun _ => ((shL (L ()) (a (), s ())).getD 9 (0, 0)).2), .z .f32 (fun _ => ((shL (L ()) (a (), s ())).getD 10 (0, 0)).1) (fun _ => ((shL (L ()) (a (), s ())).getD 10 (0, 0)).2), .z .f32 (fun _ => ((shL (L ()) (a (), s ())).getD 11 (0, 0)).1) (fun _ => ((shL (L ()) (a (), s ())).getD 11 (0, 0)).2), .z .f32 (fun _ => ((shL (L ()) (a (), s ())).getD 12 (0, 0)).1) (fun _ => ((shL (L ()) (a (), s ())).getD 12 (0, 0)).2), .z .f32 (fun _ => ((shL (L ()) (a (), s ())).getD 13 (0, 0)).1) (fun _ => ((shL (L ()) (a (), s ())).getD 13 (0, 0)).2), .z .f32 (fun _ => ((shL (L ()) (a (), s ())).getD 14 (0, 0)).1) (fun _ => ((shL (L ()) (a (), s ())).getD 14 (0, 0)).2), .z .f32 (fun _ => ((shL (L ()) (a (), s ())).getD 15 (0, 0)).1) (fun _ => ((shL (L ()) (a (), s ())).getD 15 (0, 0)).2)], [some ⟨true, 0, .lit [.sl 1 (.x o) (.x n), .i .i64 (.x fun _ => (shQ (L ()) (a (), s ())).1), .i .u64 (.x fun _ => (shQ (L ()) (a (), s ())).2)]⟩, some ⟨false, 0, .it .u8 L⟩], [fun _ => 0 ≤ a () ∧ a () ≤ 100000, fun _ => o () = 0 ∧ (L ()).length = n () ∧ n () ≤ 4096 ∧ bytesOk (L ()), fun _ => a () ≤ 1000])
  | [.c (.p 0 (.l 0))], [some ⟨true, 0, .lit [.sn, .i .i64 (.x a), .i .u64 (.x s)]⟩] => some (.a [.z .f32 (fun _ => ((shL [] (a (), s ())).getD 0 (0, 0)).1) (fun _ => ((shL [] (a (), s ())).getD 0 (0, 0)).2), .z .f32 (fun _ => ((shL [] (a (), s ())).getD 1 (0, 0)).1) (fun _ => ((shL [] (a (), s ())).getD 1 (0, 0)).2), .z .f32 (fun _ => ((shL [] (a (), s ())).getD 2 (0, 0)).1) (fun _ => ((shL [] (a (), s ())).getD 2 (0, 0)).2), .z .f32 (fun _ => ((shL [] (a (), s ())).getD 3 (0, 0)).1) (fun _ => ((shL [] (a (), s ())).getD 3 (0, 0)).2), .z .f32 (fun _ => ((shL [] (a (), s ())).getD 4 (0, 0)).1) (fun _ => ((shL [] (a (), s ())).getD 4 (0, 0)).2), .z .f32 (fun _ => ((shL [] (a (), s ())).getD 5 (0, 0)).1) (fun _ => ((shL [] (a (), s ())).getD 5 (0, 0)).2), .z .f32 (fun _ => ((shL [] (a (), s ())).getD 6 (0, 0)).1) (fun _ => ((shL [] (a (), s ())).getD 6 (0, 0)).2), .z .f32 (fun _ => ((shL [] (a (), s ())).getD 7 (0, 0)).1) (fun _ => ((shL [] (a (), s ())).getD 7 (0, 0)).2), .z .f32 (fun _ => ((shL [] (a (), s ())).getD 8 (0, 0)).1) (fun _ => ((shL [] (a (), s ())).getD 8 (0, 0)).2), .z .f32 (fun _ => ((shL [] (a (), s ())).getD 9 (0, 0)).1) (fun _ => ((shL [] (a (), s ())).getD 9 (0, 0)).2), .z .f32 (fun _ => ((shL [] (a (), s ())).getD 10 (0, 0)).1) (fun _ => ((shL [] (a (), s ())).getD 10 (0, 0)).2), .z .f32 (fun _ => ((shL [] (a (), s ())).getD 11 (0, 0)).1) (fun _ => ((shL [] (a (), s ())).getD 11 (0, 0)).2), .z .f32 (fun _ => ((shL [] (a (), s ())).getD 12 (0, 0)).1) (fun _ => ((shL [] (a (), s ())).getD 12 (0, 0)).2), .z .f32 (fun _ => ((shL [] (a (), s ())).getD 13 (0, 0)).1) (fun _ => ((shL [] (a (), s ())).getD 13 (0, 0)).2), .z .f32 (fun _ => ((shL [] (a (), s ())).getD 14 (0, 0)).1) (fun _ => ((shL [] (a (), s ())).getD 14 (0, 0)).2), .z .f32 (fun _ => ((shL [] (a (), s ())).getD 15 (0, 0)).1) (fun _ => ((shL [] (a (), s ())).getD 15 (0, 0)).2)], [some ⟨true, 0, .lit [.sn, .i .i64 (.x fun _ => (shQ [] (a (), s ())).1), .i .u64 (.x fun _ => (shQ [] (a (), s ())).2)]⟩], [fun _ => 0 ≤ a () ∧ a () ≤ 100000, fun _ => a () ≤ 1000])
  | _, _ => none
def E50 : Env := fun g => envGetL [(38, ⟨true, s38, none⟩), (35, ⟨false, s35, none⟩), (77, ⟨true, s77, none⟩), (96, ⟨false, s96, none⟩)] g
theorem E50ok : EnvOk Try.prog E50 := envOk_cons ok38 (envOk_cons ok35 (envOk_cons ok77 (envOk_cons ok96 (envOk_nil _))))
set_option maxRecDepth 100000 in
set_option maxHeartbeats 4000000 in
theorem ok50 : Ok Try.prog 50 (s50) := ok_of_wpaH (E := E50) mixed tts E50ok fn50 fun args H v H' o hs ho => by
  split at hs
  · rename_i o n a s L
    cases hs
    obtain ⟨⟨ha0, ha1⟩, ⟨ho0, hlen, hbig, hby⟩, hx0⟩ := ho.three
    try simp only [Unit.unit] at ha0 ha1 ho0 hlen hbig hx0
    refine ⟨_, HLe.refl _, ?_⟩
    cbv
    have hq0 : qIn 1000 (a ⟨⟩, s ⟨⟩) := ⟨ha0, hx0⟩
    repeat' (refine Ob.mk ?_ ?_; rotate_left; cbv)
    refine loop_rule (α := Unit → Nat) (c := ⟨tt, E50, 2⟩) (fun c => fr 67 [(0, .c (.p 0 (.l 0))), (2, .c (.p 2 (.l 0))), (3, .c (.p 3 (.l 0))), (4, .c (.p 4 (.l 0))), (5, .c (.i .i64 (.x fun _ => (c () : Int))))]) (fun c => [some ⟨true, 0, .lit [.sl 1 (.x o) (.x n), .i .i64 (.x fun _ => ((shI (L ()) (a (), s ()) (c ())).1).1), .i .u64 (.x fun _ => ((shI (L ()) (a (), s ()) (c ())).1).2)]⟩, some ⟨false, 0, .it .u8 L⟩, some ⟨true, 0, .lit [.z .f32 (fun _ => 0) (fun _ => 0), .z .f32 (fun _ => 0) (fun _ => 0), .z .f32 (fun _ => 0) (fun _ => 0), .z .f32 (fun _ => 0) (fun _ => 0), .z .f32 (fun _ => 0) (fun _ => 0), .z .f32 (fun _ => 0) (fun _ => 0), .z .f32 (fun _ => 0) (fun _ => 0), .z .f32 (fun _ => 0) (fun _ => 0), .z .f32 (fun _ => 0) (fun _ => 0), .z .f32 (fun _ => 0) (fun _ => 0), .z .f32 (fun _ => 0) (fun _ => 0), .z .f32 (fun _ => 0) (fun _ => 0), .z .f32 (fun _ => 0) (fun _ => 0), .z .f32 (fun _ => 0) (fun _ => 0), .z .f32 (fun _ => 0) (fun _ => 0), .z .f32 (fun _ => 0) (fun _ => 0)]⟩, some ⟨true, 0, .cx fun _ => (shI (L ()) (a (), s ()) (c ())).2⟩, some ⟨true, 0, .lit [.z .f32 (fun _ => 0) (fun _ => 0), .z .f32 (fun _ => 1120403456) (fun _ => 0), .z .f32 (fun _ => 1120403456) (fun _ => 1117782016), .z .f32 (fun _ => 0) (fun _ => 1117782016)]⟩])
        (fun c => c () ≤ 4) (fun c => 4 - c ()) (fun _ => 5) ?_ ?_
    · refine .mk (fun _ => 0) (Nat.zero_le _) (by decide) ?_
      cbv
      repeat' (refine Ob.mk ?_ ?_; rotate_left)
      all_goals first | exact rfl | exact True.intro | rfl
    · intro c hc
      have hc : c ⟨⟩ ≤ 4 := hc
      have hq1 : qIn 1112 (shI (L ⟨⟩) (a ⟨⟩, s ⟨⟩) (c ⟨⟩)).1 := qIn_le (shI_in hq0 (c ⟨⟩)) (by omega)
      have hls := shI_len (L ⟨⟩) (a ⟨⟩, s ⟨⟩) (c ⟨⟩)
      cbv
      by_cases hc4 : c ⟨⟩ < 4
      · have hci : 0 ≤ ((c ⟨⟩ : Nat) : Int) ∧ ((c ⟨⟩ : Nat) : Int) < ((4 : Nat) : Int) := by omega
        refine Br.t (kj_lt4 hc4) ?_
        cbv
        repeat' (refine Ob.mk ?_ ?_; (focus (first | exact rfl | exact ⟨hq1.1, Int.le_trans hq1.2 (by decide)⟩ | exact Int.le_trans hq1.2 (by decide) | exact ⟨ho0, hlen, hbig, hby⟩ | exact ⟨by trivial, hlen, hbig, hby⟩)); cbv)
        refine loop_rule (α := Unit → Nat) (c := ⟨tt, E50, 2⟩) (fun k => fr 67 [(0, .c (.p 0 (.l 0))), (2, .c (.p 2 (.l 0))), (3, .c (.p 3 (.l 0))), (4, .c (.p 4 (.l 0))), (5, .c (.i .i64 (.x fun _ => (c () : Int)))), (6, Zm (dmM (L ()) (shI (L ()) (a (), s ()) (c ())).1)), (7, .c (.i .i64 (.x fun _ => (k () : Int))))]) (fun k => [some ⟨true, 0, .lit [.sl 1 (.x o) (.x n), .i .i64 (.x fun _ => ((rowI (L ()) (dmM (L ()) (shI (L ()) (a (), s ()) (c ())).1) (c ()) (dmQ (L ()) (shI (L ()) (a (), s ()) (c ())).1) (shI (L ()) (a (), s ()) (c ())).2 (k ())).1).1), .i .u64 (.x fun _ => ((rowI (L ()) (dmM (L ()) (shI (L ()) (a (), s ()) (c ())).1) (c ()) (dmQ (L ()) (shI (L ()) (a (), s ()) (c ())).1) (shI (L ()) (a (), s ()) (c ())).2 (k ())).1).2)]⟩, some ⟨false, 0, .it .u8 L⟩, some ⟨true, 0, .lit [.z .f32 (fun _ => 0) (fun _ => 0), .z .f32 (fun _ => 0) (fun _ => 0), .z .f32 (fun _ => 0) (fun _ => 0), .z .f32 (fun _ => 0) (fun _ => 0), .z .f32 (fun _ => 0) (fun _ => 0), .z .f32 (fun _ => 0) (fun _ => 0), .z .f32 (fun _ => 0) (fun _ => 0), .z .f32 (fun _ => 0) (fun _ => 0), .z .f32 (fun _ => 0) (fun _ => 0), .z .f32 (fun _ => 0) (fun _ => 0), .z .f32 (fun _ => 0) (fun _ => 0), .z .f32 (fun _ => 0) (fun _ => 0), .z .f32 (fun _ => 0) (fun _ => 0), .z .f32 (fun _ => 0) (fun _ => 0), .z .f32 (fun _ => 0) (fun _ => 0), .z .f32 (fun _ => 0) (fun _ => 0)]⟩, some ⟨true, 0, .cx fun _ => (rowI (L ()) (dmM (L ()) (shI (L ()) (a (), s ()) (c ())).1) (c ()) (dmQ (L ()) (shI (L ()) (a (), s ()) (c ())).1) (shI (L ()) (a (), s ()) (c ())).2 (k ())).2⟩, some ⟨true, 0, .lit [.z .f32 (fun _ => 0) (fun _ => 0), .z .f32 (fun _ => 1120403456) (fun _ => 0), .z .f32 (fun _ => 1120403456) (fun _ => 1117782016), .z .f32 (fun _ => 0) (fun _ => 1117782016)]⟩])
            (fun k => k () ≤ 4) (fun k => 4 - k ()) (fun _ => 5) ?_ ?_
        · refine .mk (fun _ => 0) (Nat.zero_le _) (by decide) ?_
          cbv
          repeat' (refine Ob.mk ?_ ?_; rotate_left)
          all_goals first | exact rfl | exact True.intro | rfl
        · intro k hk
          have hk : k ⟨⟩ ≤ 4 := hk
          have hq2 : qIn 1200 (dmQ (L ⟨⟩) (shI (L ⟨⟩) (a ⟨⟩, s ⟨⟩) (c ⟨⟩)).1) := qIn_le (dmQ_in hq1) (by decide)
          have hq3 : qIn 1300 (rowI (L ⟨⟩) (dmM (L ⟨⟩) (shI (L ⟨⟩) (a ⟨⟩, s ⟨⟩) (c ⟨⟩)).1) (c ⟨⟩) (dmQ (L ⟨⟩) (shI (L ⟨⟩) (a ⟨⟩, s ⟨⟩) (c ⟨⟩)).1) (shI (L ⟨⟩) (a ⟨⟩, s ⟨⟩) (c ⟨⟩)).2 (k ⟨⟩)).1 := qIn_le (rowI_in hq2 (k ⟨⟩)) (by omega)
          have hlr : (rowI (L ⟨⟩) (dmM (L ⟨⟩) (shI (L ⟨⟩) (a ⟨⟩, s ⟨⟩) (c ⟨⟩)).1) (c ⟨⟩) (dmQ (L ⟨⟩) (shI (L ⟨⟩) (a ⟨⟩, s ⟨⟩) (c ⟨⟩)).1) (shI (L ⟨⟩) (a ⟨⟩, s ⟨⟩) (c ⟨⟩)).2 (k ⟨⟩)).2.length = 16 := by rw [rowI_len, hls]
          cbv
          by_cases hk4 : k ⟨⟩ < 4
          · have hki : 0 ≤ ((k ⟨⟩ : Nat) : Int) ∧ ((k ⟨⟩ : Nat) : Int) < ((4 : Nat) : Int) := by omega
            refine Br.t (kj_lt4 hk4) ?_
            cbv
            repeat' first
              | (refine Ob.mk ?_ ?_; (focus (first | exact hki | exact hci | exact rfl | (dsimp only [IE.val, NE.val, IE.nat, forced, List.length_cons, List.length_nil, Int.toNat_natCast]; simp only [List.length_set, Int.toNat_natCast, hlr]; omega) | (dsimp only [IE.val, NE.val, IE.nat, forced, List.length_cons, List.length_nil, Int.toNat_natCast]; omega) | exact hci | exact hki)); cbv)
              | (refine Lex.pull [0, 1, 2, 3, 4, 5, 6] (by decide +kernel) ?_; cbv)
            by_cases hc0 : 0 < c ⟨⟩
            · refine Br.t (ltB_iff.2 (Int.natCast_pos.2 hc0)) ?_
              cbv
              repeat' first
                | (refine Ob.mk ?_ ?_; (focus (first | exact hki | exact hci | exact rfl | exact ⟨hq3.1, Int.le_trans hq3.2 (by decide)⟩ | exact Int.le_trans hq3.2 (by decide) | exact ⟨ho0, hlen, hbig, hby⟩ | exact ⟨by trivial, hlen, hbig, hby⟩ | (dsimp only [IE.val, NE.val, IE.nat, forced, List.length_cons, List.length_nil, Int.toNat_natCast]; simp only [List.length_set, Int.toNat_natCast, hlr]; omega) | (dsimp only [IE.val, NE.val, IE.nat, forced, List.length_cons, List.length_nil, Int.toNat_natCast]; omega) | exact hci | exact hki)); cbv)
                | (refine Lex.pull [0, 1, 2, 3, 4, 5, 6, 7, 8] (by decide +kernel) ?_; cbv)
              refine Br.mk (fun hy => ?_) (fun hy => ?_)
              · have hy : (pkV (L ⟨⟩) 4 (rowI (L ⟨⟩) (dmM (L ⟨⟩) (shI (L ⟨⟩) (a ⟨⟩, s ⟨⟩) (c ⟨⟩)).1) (c ⟨⟩) (dmQ (L ⟨⟩) (shI (L ⟨⟩) (a ⟨⟩, s ⟨⟩) (c ⟨⟩)).1) (shI (L ⟨⟩) (a ⟨⟩, s ⟨⟩) (c ⟨⟩)).2 (k ⟨⟩)).1 == 0) = true := hy
                have hrow : (rowI (L ⟨⟩) (dmM (L ⟨⟩) (shI (L ⟨⟩) (a ⟨⟩, s ⟨⟩) (c ⟨⟩)).1) (c ⟨⟩) (dmQ (L ⟨⟩) (shI (L ⟨⟩) (a ⟨⟩, s ⟨⟩) (c ⟨⟩)).1) (shI (L ⟨⟩) (a ⟨⟩, s ⟨⟩) (c ⟨⟩)).2 (k ⟨⟩ + 1)).2 = (rowI (L ⟨⟩) (dmM (L ⟨⟩) (shI (L ⟨⟩) (a ⟨⟩, s ⟨⟩) (c ⟨⟩)).1) (c ⟨⟩) (dmQ (L ⟨⟩) (shI (L ⟨⟩) (a ⟨⟩, s ⟨⟩) (c ⟨⟩)).1) (shI (L ⟨⟩) (a ⟨⟩, s ⟨⟩) (c ⟨⟩)).2 (k ⟨⟩)).2.set (c ⟨⟩ * 4 + k ⟨⟩) (dmM (L ⟨⟩) (pkQ (L ⟨⟩) 4 (rowI (L ⟨⟩) (dmM (L ⟨⟩) (shI (L ⟨⟩) (a ⟨⟩, s ⟨⟩) (c ⟨⟩)).1) (c ⟨⟩) (dmQ (L ⟨⟩) (shI (L ⟨⟩) (a ⟨⟩, s ⟨⟩) (c ⟨⟩)).1) (shI (L ⟨⟩) (a ⟨⟩, s ⟨⟩) (c ⟨⟩)).2 (k ⟨⟩)).1)) := by
                  show (rowI (L ⟨⟩) (dmM (L ⟨⟩) (shI (L ⟨⟩) (a ⟨⟩, s ⟨⟩) (c ⟨⟩)).1) (c ⟨⟩) (dmQ (L ⟨⟩) (shI (L ⟨⟩) (a ⟨⟩, s ⟨⟩) (c ⟨⟩)).1) (shI (L ⟨⟩) (a ⟨⟩, s ⟨⟩) (c ⟨⟩)).2 (k ⟨⟩)).2.set (c ⟨⟩ * 4 + k ⟨⟩) (cellV (L ⟨⟩) (rowI (L ⟨⟩) (dmM (L ⟨⟩) (shI (L ⟨⟩) (a ⟨⟩, s ⟨⟩) (c ⟨⟩)).1) (c ⟨⟩) (dmQ (L ⟨⟩) (shI (L ⟨⟩) (a ⟨⟩, s ⟨⟩) (c ⟨⟩)).1) (shI (L ⟨⟩) (a ⟨⟩, s ⟨⟩) (c ⟨⟩)).2 (k ⟨⟩)).1 (cellB (dmM (L ⟨⟩) (shI (L ⟨⟩) (a ⟨⟩, s ⟨⟩) (c ⟨⟩)).1) (c ⟨⟩) (k ⟨⟩))) = _
                  rw [show cellV (L ⟨⟩) (rowI (L ⟨⟩) (dmM (L ⟨⟩) (shI (L ⟨⟩) (a ⟨⟩, s ⟨⟩) (c ⟨⟩)).1) (c ⟨⟩) (dmQ (L ⟨⟩) (shI (L ⟨⟩) (a ⟨⟩, s ⟨⟩) (c ⟨⟩)).1) (shI (L ⟨⟩) (a ⟨⟩, s ⟨⟩) (c ⟨⟩)).2 (k ⟨⟩)).1 (cellB (dmM (L ⟨⟩) (shI (L ⟨⟩) (a ⟨⟩, s ⟨⟩) (c ⟨⟩)).1) (c ⟨⟩) (k ⟨⟩)) = dmM (L ⟨⟩) (pkQ (L ⟨⟩) 4 (rowI (L ⟨⟩) (dmM (L ⟨⟩) (shI (L ⟨⟩) (a ⟨⟩, s ⟨⟩) (c ⟨⟩)).1) (c ⟨⟩) (dmQ (L ⟨⟩) (shI (L ⟨⟩) (a ⟨⟩, s ⟨⟩) (c ⟨⟩)).1) (shI (L ⟨⟩) (a ⟨⟩, s ⟨⟩) (c ⟨⟩)).2 (k ⟨⟩)).1) from by unfold cellV; exact if_pos hy]
                have hqn : (rowI (L ⟨⟩) (dmM (L ⟨⟩) (shI (L ⟨⟩) (a ⟨⟩, s ⟨⟩) (c ⟨⟩)).1) (c ⟨⟩) (dmQ (L ⟨⟩) (shI (L ⟨⟩) (a ⟨⟩, s ⟨⟩) (c ⟨⟩)).1) (shI (L ⟨⟩) (a ⟨⟩, s ⟨⟩) (c ⟨⟩)).2 (k ⟨⟩ + 1)).1 = dmQ (L ⟨⟩) (pkQ (L ⟨⟩) 4 (rowI (L ⟨⟩) (dmM (L ⟨⟩) (shI (L ⟨⟩) (a ⟨⟩, s ⟨⟩) (c ⟨⟩)).1) (c ⟨⟩) (dmQ (L ⟨⟩) (shI (L ⟨⟩) (a ⟨⟩, s ⟨⟩) (c ⟨⟩)).1) (shI (L ⟨⟩) (a ⟨⟩, s ⟨⟩) (c ⟨⟩)).2 (k ⟨⟩)).1) := if_pos hy
                have hq5 : qIn 1900 (pkQ (L ⟨⟩) 4 (rowI (L ⟨⟩) (dmM (L ⟨⟩) (shI (L ⟨⟩) (a ⟨⟩, s ⟨⟩) (c ⟨⟩)).1) (c ⟨⟩) (dmQ (L ⟨⟩) (shI (L ⟨⟩) (a ⟨⟩, s ⟨⟩) (c ⟨⟩)).1) (shI (L ⟨⟩) (a ⟨⟩, s ⟨⟩) (c ⟨⟩)).2 (k ⟨⟩)).1) := qIn_le (qIn_pk hq3) (by decide)
                cbv
                repeat' first
                  | (refine Ob.mk ?_ ?_; (focus (first | exact rfl | exact ⟨hq3.1, Int.le_trans hq3.2 (by decide)⟩ | exact Int.le_trans hq3.2 (by decide) | exact ⟨hq5.1, Int.le_trans hq5.2 (by decide)⟩ | exact Int.le_trans hq5.2 (by decide) | exact ⟨ho0, hlen, hbig, hby⟩ | exact ⟨by trivial, hlen, hbig, hby⟩ | (dsimp only [IE.val, NE.val, IE.nat, forced, List.length_cons, List.length_nil, Int.toNat_natCast]; simp only [List.length_set, Int.toNat_natCast, hlr]; omega) | (dsimp only [IE.val, NE.val, IE.nat, forced, List.length_cons, List.length_nil, Int.toNat_natCast]; omega) | exact hci | exact hki | exact wrap64_nat (by omega) | exact (congrArg Prod.fst hqn).symm | exact (congrArg Prod.snd hqn).symm | (dsimp only [IE.val, NE.val, IE.nat, forced]; simp only [Int.toNat_natCast, Nat.zero_add, Nat.mul_one, List.set_set]; exact hrow.symm))); cbv)
                  | (refine Lex.pull [0, 1, 2, 4, 5] (by decide +kernel) ?_; cbv)
                  | (refine Lex.pull [0, 1, 2] (by decide +kernel) ?_; cbv)
                  | (refine Lex.tail 3 (by decide +kernel) ?_; cbv)
                  | (refine Both.mk ?_ ?_ <;> cbv)
                  | (refine Next.mk (fun _ => k () + 1) ?_ ?_ ?_)
                all_goals try (first | exact (congrArg Prod.fst hqn).symm | exact (congrArg Prod.snd hqn).symm)
                all_goals try (dsimp only [IE.val, NE.val, IE.nat, forced]; simp only [Int.toNat_natCast, Nat.zero_add, Nat.mul_one, List.set_set]; exact hrow.symm)
                all_goals (try simp only [Unit.unit, Int.ofNat_lt, Int.ofNat_le, BE.val, IE.val, NE.val, ltB_iff, ltB_no, leB_iff, leB_no, Int.toNat_natCast, Nat.zero_add, Nat.add_zero, Nat.mul_one, forced, beq_iff_eq, beq_eq_false_iff_ne, bne_iff_ne, bne_eq_false_iff_eq] at *)
                all_goals first | with_reducible rfl | exact True.intro | omega | exact wrap64_nat (by omega) | rfl | trace_state
              · have hy : (pkV (L ⟨⟩) 4 (rowI (L ⟨⟩) (dmM (L ⟨⟩) (shI (L ⟨⟩) (a ⟨⟩, s ⟨⟩) (c ⟨⟩)).1) (c ⟨⟩) (dmQ (L ⟨⟩) (shI (L ⟨⟩) (a ⟨⟩, s ⟨⟩) (c ⟨⟩)).1) (shI (L ⟨⟩) (a ⟨⟩, s ⟨⟩) (c ⟨⟩)).2 (k ⟨⟩)).1 == 0) = false := hy
                have hrow : (rowI (L ⟨⟩) (dmM (L ⟨⟩) (shI (L ⟨⟩) (a ⟨⟩, s ⟨⟩) (c ⟨⟩)).1) (c ⟨⟩) (dmQ (L ⟨⟩) (shI (L ⟨⟩) (a ⟨⟩, s ⟨⟩) (c ⟨⟩)).1) (shI (L ⟨⟩) (a ⟨⟩, s ⟨⟩) (c ⟨⟩)).2 (k ⟨⟩ + 1)).2 = (rowI (L ⟨⟩) (dmM (L ⟨⟩) (shI (L ⟨⟩) (a ⟨⟩, s ⟨⟩) (c ⟨⟩)).1) (c ⟨⟩) (dmQ (L ⟨⟩) (shI (L ⟨⟩) (a ⟨⟩, s ⟨⟩) (c ⟨⟩)).1) (shI (L ⟨⟩) (a ⟨⟩, s ⟨⟩) (c ⟨⟩)).2 (k ⟨⟩)).2.set (c ⟨⟩ * 4 + k ⟨⟩) (plusM (cnr (k ⟨⟩)) (dmM (L ⟨⟩) (shI (L ⟨⟩) (a ⟨⟩, s ⟨⟩) (c ⟨⟩)).1)) := by
                  show (rowI (L ⟨⟩) (dmM (L ⟨⟩) (shI (L ⟨⟩) (a ⟨⟩, s ⟨⟩) (c ⟨⟩)).1) (c ⟨⟩) (dmQ (L ⟨⟩) (shI (L ⟨⟩) (a ⟨⟩, s ⟨⟩) (c ⟨⟩)).1) (shI (L ⟨⟩) (a ⟨⟩, s ⟨⟩) (c ⟨⟩)).2 (k ⟨⟩)).2.set (c ⟨⟩ * 4 + k ⟨⟩) (cellV (L ⟨⟩) (rowI (L ⟨⟩) (dmM (L ⟨⟩) (shI (L ⟨⟩) (a ⟨⟩, s ⟨⟩) (c ⟨⟩)).1) (c ⟨⟩) (dmQ (L ⟨⟩) (shI (L ⟨⟩) (a ⟨⟩, s ⟨⟩) (c ⟨⟩)).1) (shI (L ⟨⟩) (a ⟨⟩, s ⟨⟩) (c ⟨⟩)).2 (k ⟨⟩)).1 (cellB (dmM (L ⟨⟩) (shI (L ⟨⟩) (a ⟨⟩, s ⟨⟩) (c ⟨⟩)).1) (c ⟨⟩) (k ⟨⟩))) = _
                  rw [show cellV (L ⟨⟩) (rowI (L ⟨⟩) (dmM (L ⟨⟩) (shI (L ⟨⟩) (a ⟨⟩, s ⟨⟩) (c ⟨⟩)).1) (c ⟨⟩) (dmQ (L ⟨⟩) (shI (L ⟨⟩) (a ⟨⟩, s ⟨⟩) (c ⟨⟩)).1) (shI (L ⟨⟩) (a ⟨⟩, s ⟨⟩) (c ⟨⟩)).2 (k ⟨⟩)).1 (cellB (dmM (L ⟨⟩) (shI (L ⟨⟩) (a ⟨⟩, s ⟨⟩) (c ⟨⟩)).1) (c ⟨⟩) (k ⟨⟩)) = plusM (cnr (k ⟨⟩)) (dmM (L ⟨⟩) (shI (L ⟨⟩) (a ⟨⟩, s ⟨⟩) (c ⟨⟩)).1) from by unfold cellV; rw [if_neg (by rw [hy]; decide)]; exact if_pos hc0]
                have hqn : (rowI (L ⟨⟩) (dmM (L ⟨⟩) (shI (L ⟨⟩) (a ⟨⟩, s ⟨⟩) (c ⟨⟩)).1) (c ⟨⟩) (dmQ (L ⟨⟩) (shI (L ⟨⟩) (a ⟨⟩, s ⟨⟩) (c ⟨⟩)).1) (shI (L ⟨⟩) (a ⟨⟩, s ⟨⟩) (c ⟨⟩)).2 (k ⟨⟩ + 1)).1 = pkQ (L ⟨⟩) 4 (rowI (L ⟨⟩) (dmM (L ⟨⟩) (shI (L ⟨⟩) (a ⟨⟩, s ⟨⟩) (c ⟨⟩)).1) (c ⟨⟩) (dmQ (L ⟨⟩) (shI (L ⟨⟩) (a ⟨⟩, s ⟨⟩) (c ⟨⟩)).1) (shI (L ⟨⟩) (a ⟨⟩, s ⟨⟩) (c ⟨⟩)).2 (k ⟨⟩)).1 := if_neg (by rw [hy]; decide)
                cbv
                repeat' first
                  | (refine Ob.mk ?_ ?_; (focus (first | exact rfl | exact ⟨hq3.1, Int.le_trans hq3.2 (by decide)⟩ | exact Int.le_trans hq3.2 (by decide) | exact ⟨ho0, hlen, hbig, hby⟩ | exact ⟨by trivial, hlen, hbig, hby⟩ | (dsimp only [IE.val, NE.val, IE.nat, forced, List.length_cons, List.length_nil, Int.toNat_natCast]; simp only [List.length_set, Int.toNat_natCast, hlr]; omega) | (dsimp only [IE.val, NE.val, IE.nat, forced, List.length_cons, List.length_nil, Int.toNat_natCast]; omega) | exact hci | exact hki | exact wrap64_nat (by omega) | exact (congrArg Prod.fst hqn).symm | exact (congrArg Prod.snd hqn).symm | (dsimp only [IE.val, NE.val, IE.nat, forced]; simp only [Int.toNat_natCast, Nat.zero_add, Nat.mul_one, List.set_set]; exact hrow.symm))); cbv)
                  | (refine Lex.pull [0, 1, 2, 4, 5] (by decide +kernel) ?_; cbv)
                  | (refine Lex.pull [0, 1, 2] (by decide +kernel) ?_; cbv)
                  | (refine Lex.tail 3 (by decide +kernel) ?_; cbv)
                  | (refine Both.mk ?_ ?_ <;> cbv)
                  | (refine Next.mk (fun _ => k () + 1) ?_ ?_ ?_)
                all_goals try (first | exact (congrArg Prod.fst hqn).symm | exact (congrArg Prod.snd hqn).symm)
                all_goals try (dsimp only [IE.val, NE.val, IE.nat, forced]; simp only [Int.toNat_natCast, Nat.zero_add, Nat.mul_one, List.set_set]; exact hrow.symm)
                all_goals (try simp only [Unit.unit, Int.ofNat_lt, Int.ofNat_le, BE.val, IE.val, NE.val, ltB_iff, ltB_no, leB_iff, leB_no, Int.toNat_natCast, Nat.zero_add, Nat.add_zero, Nat.mul_one, forced, beq_iff_eq, beq_eq_false_iff_ne, bne_iff_ne, bne_eq_false_iff_eq] at *)
                all_goals first | with_reducible rfl | exact True.intro | omega | exact wrap64_nat (by omega) | rfl | trace_state
            · refine Br.f (ltB_no.2 (fun h => hc0 (Int.natCast_pos.1 h))) ?_
              cbv
              repeat' first
                | (refine Ob.mk ?_ ?_; (focus (first | exact hki | exact hci | exact rfl | exact ⟨hq3.1, Int.le_trans hq3.2 (by decide)⟩ | exact Int.le_trans hq3.2 (by decide) | exact ⟨ho0, hlen, hbig, hby⟩ | exact ⟨by trivial, hlen, hbig, hby⟩ | (dsimp only [IE.val, NE.val, IE.nat, forced, List.length_cons, List.length_nil, Int.toNat_natCast]; simp only [List.length_set, Int.toNat_natCast, hlr]; omega) | (dsimp only [IE.val, NE.val, IE.nat, forced, List.length_cons, List.length_nil, Int.toNat_natCast]; omega) | exact hci | exact hki)); cbv)
              refine Br.mk (fun hy => ?_) (fun hy => ?_)
              · have hy : (pkV (L ⟨⟩) 4 (rowI (L ⟨⟩) (dmM (L ⟨⟩) (shI (L ⟨⟩) (a ⟨⟩, s ⟨⟩) (c ⟨⟩)).1) (c ⟨⟩) (dmQ (L ⟨⟩) (shI (L ⟨⟩) (a ⟨⟩, s ⟨⟩) (c ⟨⟩)).1) (shI (L ⟨⟩) (a ⟨⟩, s ⟨⟩) (c ⟨⟩)).2 (k ⟨⟩)).1 == 0) = true := hy
                have hrow : (rowI (L ⟨⟩) (dmM (L ⟨⟩) (shI (L ⟨⟩) (a ⟨⟩, s ⟨⟩) (c ⟨⟩)).1) (c ⟨⟩) (dmQ (L ⟨⟩) (shI (L ⟨⟩) (a ⟨⟩, s ⟨⟩) (c ⟨⟩)).1) (shI (L ⟨⟩) (a ⟨⟩, s ⟨⟩) (c ⟨⟩)).2 (k ⟨⟩ + 1)).2 = (rowI (L ⟨⟩) (dmM (L ⟨⟩) (shI (L ⟨⟩) (a ⟨⟩, s ⟨⟩) (c ⟨⟩)).1) (c ⟨⟩) (dmQ (L ⟨⟩) (shI (L ⟨⟩) (a ⟨⟩, s ⟨⟩) (c ⟨⟩)).1) (shI (L ⟨⟩) (a ⟨⟩, s ⟨⟩) (c ⟨⟩)).2 (k ⟨⟩)).2.set (c ⟨⟩ * 4 + k ⟨⟩) (dmM (L ⟨⟩) (pkQ (L ⟨⟩) 4 (rowI (L ⟨⟩) (dmM (L ⟨⟩) (shI (L ⟨⟩) (a ⟨⟩, s ⟨⟩) (c ⟨⟩)).1) (c ⟨⟩) (dmQ (L ⟨⟩) (shI (L ⟨⟩) (a ⟨⟩, s ⟨⟩) (c ⟨⟩)).1) (shI (L ⟨⟩) (a ⟨⟩, s ⟨⟩) (c ⟨⟩)).2 (k ⟨⟩)).1)) := by
                  show (rowI (L ⟨⟩) (dmM (L ⟨⟩) (shI (L ⟨⟩) (a ⟨⟩, s ⟨⟩) (c ⟨⟩)).1) (c ⟨⟩) (dmQ (L ⟨⟩) (shI (L ⟨⟩) (a ⟨⟩, s ⟨⟩) (c ⟨⟩)).1) (shI (L ⟨⟩) (a ⟨⟩, s ⟨⟩) (c ⟨⟩)).2 (k ⟨⟩)).2.set (c ⟨⟩ * 4 + k ⟨⟩) (cellV (L ⟨⟩) (rowI (L ⟨⟩) (dmM (L ⟨⟩) (shI (L ⟨⟩) (a ⟨⟩, s ⟨⟩) (c ⟨⟩)).1) (c ⟨⟩) (dmQ (L ⟨⟩) (shI (L ⟨⟩) (a ⟨⟩, s ⟨⟩) (c ⟨⟩)).1) (shI (L ⟨⟩) (a ⟨⟩, s ⟨⟩) (c ⟨⟩)).2 (k ⟨⟩)).1 (cellB (dmM (L ⟨⟩) (shI (L ⟨⟩) (a ⟨⟩, s ⟨⟩) (c ⟨⟩)).1) (c ⟨⟩) (k ⟨⟩))) = _
                  rw [show cellV (L ⟨⟩) (rowI (L ⟨⟩) (dmM (L ⟨⟩) (shI (L ⟨⟩) (a ⟨⟩, s ⟨⟩) (c ⟨⟩)).1) (c ⟨⟩) (dmQ (L ⟨⟩) (shI (L ⟨⟩) (a ⟨⟩, s ⟨⟩) (c ⟨⟩)).1) (shI (L ⟨⟩) (a ⟨⟩, s ⟨⟩) (c ⟨⟩)).2 (k ⟨⟩)).1 (cellB (dmM (L ⟨⟩) (shI (L ⟨⟩) (a ⟨⟩, s ⟨⟩) (c ⟨⟩)).1) (c ⟨⟩) (k ⟨⟩)) = dmM (L ⟨⟩) (pkQ (L ⟨⟩) 4 (rowI (L ⟨⟩) (dmM (L ⟨⟩) (shI (L ⟨⟩) (a ⟨⟩, s ⟨⟩) (c ⟨⟩)).1) (c ⟨⟩) (dmQ (L ⟨⟩) (shI (L ⟨⟩) (a ⟨⟩, s ⟨⟩) (c ⟨⟩)).1) (shI (L ⟨⟩) (a ⟨⟩, s ⟨⟩) (c ⟨⟩)).2 (k ⟨⟩)).1) from by unfold cellV; exact if_pos hy]
                have hqn : (rowI (L ⟨⟩) (dmM (L ⟨⟩) (shI (L ⟨⟩) (a ⟨⟩, s ⟨⟩) (c ⟨⟩)).1) (c ⟨⟩) (dmQ (L ⟨⟩) (shI (L ⟨⟩) (a ⟨⟩, s ⟨⟩) (c ⟨⟩)).1) (shI (L ⟨⟩) (a ⟨⟩, s ⟨⟩) (c ⟨⟩)).2 (k ⟨⟩ + 1)).1 = dmQ (L ⟨⟩) (pkQ (L ⟨⟩) 4 (rowI (L ⟨⟩) (dmM (L ⟨⟩) (shI (L ⟨⟩) (a ⟨⟩, s ⟨⟩) (c ⟨⟩)).1) (c ⟨⟩) (dmQ (L ⟨⟩) (shI (L ⟨⟩) (a ⟨⟩, s ⟨⟩) (c ⟨⟩)).1) (shI (L ⟨⟩) (a ⟨⟩, s ⟨⟩) (c ⟨⟩)).2 (k ⟨⟩)).1) := if_pos hy
                have hq5 : qIn 1900 (pkQ (L ⟨⟩) 4 (rowI (L ⟨⟩) (dmM (L ⟨⟩) (shI (L ⟨⟩) (a ⟨⟩, s ⟨⟩) (c ⟨⟩)).1) (c ⟨⟩) (dmQ (L ⟨⟩) (shI (L ⟨⟩) (a ⟨⟩, s ⟨⟩) (c ⟨⟩)).1) (shI (L ⟨⟩) (a ⟨⟩, s ⟨⟩) (c ⟨⟩)).2 (k ⟨⟩)).1) := qIn_le (qIn_pk hq3) (by decide)
                cbv
                repeat' first
                  | (refine Ob.mk ?_ ?_; (focus (first | exact rfl | exact ⟨hq3.1, Int.le_trans hq3.2 (by decide)⟩ | exact Int.le_trans hq3.2 (by decide) | exact ⟨hq5.1, Int.le_trans hq5.2 (by decide)⟩ | exact Int.le_trans hq5.2 (by decide) | exact ⟨ho0, hlen, hbig, hby⟩ | exact ⟨by trivial, hlen, hbig, hby⟩ | (dsimp only [IE.val, NE.val, IE.nat, forced, List.length_cons, List.length_nil, Int.toNat_natCast]; simp only [List.length_set, Int.toNat_natCast, hlr]; omega) | (dsimp only [IE.val, NE.val, IE.nat, forced, List.length_cons, List.length_nil, Int.toNat_natCast]; omega) | exact hci | exact hki | exact wrap64_nat (by omega) | exact (congrArg Prod.fst hqn).symm | exact (congrArg Prod.snd hqn).symm | (dsimp only [IE.val, NE.val, IE.nat, forced]; simp only [Int.toNat_natCast, Nat.zero_add, Nat.mul_one, List.set_set]; exact hrow.symm))); cbv)
                  | (refine Lex.pull [0, 1, 2, 4, 5] (by decide +kernel) ?_; cbv)
                  | (refine Lex.pull [0, 1, 2] (by decide +kernel) ?_; cbv)
                  | (refine Lex.tail 3 (by decide +kernel) ?_; cbv)
                  | (refine Both.mk ?_ ?_ <;> cbv)
                  | (refine Next.mk (fun _ => k () + 1) ?_ ?_ ?_)
                all_goals try (first | exact (congrArg Prod.fst hqn).symm | exact (congrArg Prod.snd hqn).symm)
                all_goals try (dsimp only [IE.val, NE.val, IE.nat, forced]; simp only [Int.toNat_natCast, Nat.zero_add, Nat.mul_one, List.set_set]; exact hrow.symm)
                all_goals (try simp only [Unit.unit, Int.ofNat_lt, Int.ofNat_le, BE.val, IE.val, NE.val, ltB_iff, ltB_no, leB_iff, leB_no, Int.toNat_natCast, Nat.zero_add, Nat.add_zero, Nat.mul_one, forced, beq_iff_eq, beq_eq_false_iff_ne, bne_iff_ne, bne_eq_false_iff_eq] at *)
                all_goals first | with_reducible rfl | exact True.intro | omega | exact wrap64_nat (by omega) | rfl | trace_state
              · have hy : (pkV (L ⟨⟩) 4 (rowI (L ⟨⟩) (dmM (L ⟨⟩) (shI (L ⟨⟩) (a ⟨⟩, s ⟨⟩) (c ⟨⟩)).1) (c ⟨⟩) (dmQ (L ⟨⟩) (shI (L ⟨⟩) (a ⟨⟩, s ⟨⟩) (c ⟨⟩)).1) (shI (L ⟨⟩) (a ⟨⟩, s ⟨⟩) (c ⟨⟩)).2 (k ⟨⟩)).1 == 0) = false := hy
                have hrow : (rowI (L ⟨⟩) (dmM (L ⟨⟩) (shI (L ⟨⟩) (a ⟨⟩, s ⟨⟩) (c ⟨⟩)).1) (c ⟨⟩) (dmQ (L ⟨⟩) (shI (L ⟨⟩) (a ⟨⟩, s ⟨⟩) (c ⟨⟩)).1) (shI (L ⟨⟩) (a ⟨⟩, s ⟨⟩) (c ⟨⟩)).2 (k ⟨⟩ + 1)).2 = (rowI (L ⟨⟩) (dmM (L ⟨⟩) (shI (L ⟨⟩) (a ⟨⟩, s ⟨⟩) (c ⟨⟩)).1) (c ⟨⟩) (dmQ (L ⟨⟩) (shI (L ⟨⟩) (a ⟨⟩, s ⟨⟩) (c ⟨⟩)).1) (shI (L ⟨⟩) (a ⟨⟩, s ⟨⟩) (c ⟨⟩)).2 (k ⟨⟩)).2.set (c ⟨⟩ * 4 + k ⟨⟩) (cnr (k ⟨⟩)) := by
                  show (rowI (L ⟨⟩) (dmM (L ⟨⟩) (shI (L ⟨⟩) (a ⟨⟩, s ⟨⟩) (c ⟨⟩)).1) (c ⟨⟩) (dmQ (L ⟨⟩) (shI (L ⟨⟩) (a ⟨⟩, s ⟨⟩) (c ⟨⟩)).1) (shI (L ⟨⟩) (a ⟨⟩, s ⟨⟩) (c ⟨⟩)).2 (k ⟨⟩)).2.set (c ⟨⟩ * 4 + k ⟨⟩) (cellV (L ⟨⟩) (rowI (L ⟨⟩) (dmM (L ⟨⟩) (shI (L ⟨⟩) (a ⟨⟩, s ⟨⟩) (c ⟨⟩)).1) (c ⟨⟩) (dmQ (L ⟨⟩) (shI (L ⟨⟩) (a ⟨⟩, s ⟨⟩) (c ⟨⟩)).1) (shI (L ⟨⟩) (a ⟨⟩, s ⟨⟩) (c ⟨⟩)).2 (k ⟨⟩)).1 (cellB (dmM (L ⟨⟩) (shI (L ⟨⟩) (a ⟨⟩, s ⟨⟩) (c ⟨⟩)).1) (c ⟨⟩) (k ⟨⟩))) = _
                  rw [show cellV (L ⟨⟩) (rowI (L ⟨⟩) (dmM (L ⟨⟩) (shI (L ⟨⟩) (a ⟨⟩, s ⟨⟩) (c ⟨⟩)).1) (c ⟨⟩) (dmQ (L ⟨⟩) (shI (L ⟨⟩) (a ⟨⟩, s ⟨⟩) (c ⟨⟩)).1) (shI (L ⟨⟩) (a ⟨⟩, s ⟨⟩) (c ⟨⟩)).2 (k ⟨⟩)).1 (cellB (dmM (L ⟨⟩) (shI (L ⟨⟩) (a ⟨⟩, s ⟨⟩) (c ⟨⟩)).1) (c ⟨⟩) (k ⟨⟩)) = cnr (k ⟨⟩) from by unfold cellV; rw [if_neg (by rw [hy]; decide)]; exact if_neg hc0]
                have hqn : (rowI (L ⟨⟩) (dmM (L ⟨⟩) (shI (L ⟨⟩) (a ⟨⟩, s ⟨⟩) (c ⟨⟩)).1) (c ⟨⟩) (dmQ (L ⟨⟩) (shI (L ⟨⟩) (a ⟨⟩, s ⟨⟩) (c ⟨⟩)).1) (shI (L ⟨⟩) (a ⟨⟩, s ⟨⟩) (c ⟨⟩)).2 (k ⟨⟩ + 1)).1 = pkQ (L ⟨⟩) 4 (rowI (L ⟨⟩) (dmM (L ⟨⟩) (shI (L ⟨⟩) (a ⟨⟩, s ⟨⟩) (c ⟨⟩)).1) (c ⟨⟩) (dmQ (L ⟨⟩) (shI (L ⟨⟩) (a ⟨⟩, s ⟨⟩) (c ⟨⟩)).1) (shI (L ⟨⟩) (a ⟨⟩, s ⟨⟩) (c ⟨⟩)).2 (k ⟨⟩)).1 := if_neg (by rw [hy]; decide)
                cbv
                repeat' first
                  | (refine Ob.mk ?_ ?_; (focus (first | exact rfl | exact ⟨hq3.1, Int.le_trans hq3.2 (by decide)⟩ | exact Int.le_trans hq3.2 (by decide) | exact ⟨ho0, hlen, hbig, hby⟩ | exact ⟨by trivial, hlen, hbig, hby⟩ | (dsimp only [IE.val, NE.val, IE.nat, forced, List.length_cons, List.length_nil, Int.toNat_natCast]; simp only [List.length_set, Int.toNat_natCast, hlr]; omega) | (dsimp only [IE.val, NE.val, IE.nat, forced, List.length_cons, List.length_nil, Int.toNat_natCast]; omega) | exact hci | exact hki | exact wrap64_nat (by omega) | exact (congrArg Prod.fst hqn).symm | exact (congrArg Prod.snd hqn).symm | (dsimp only [IE.val, NE.val, IE.nat, forced]; simp only [Int.toNat_natCast, Nat.zero_add, Nat.mul_one, List.set_set]; exact hrow.symm))); cbv)
                  | (refine Lex.pull [0, 1, 2, 4, 5] (by decide +kernel) ?_; cbv)
                  | (refine Lex.pull [0, 1, 2] (by decide +kernel) ?_; cbv)
                  | (refine Lex.tail 3 (by decide +kernel) ?_; cbv)
                  | (refine Both.mk ?_ ?_ <;> cbv)
                  | (refine Next.mk (fun _ => k () + 1) ?_ ?_ ?_)
                all_goals try (first | exact (congrArg Prod.fst hqn).symm | exact (congrArg Prod.snd hqn).symm)
                all_goals try (dsimp only [IE.val, NE.val, IE.nat, forced]; simp only [Int.toNat_natCast, Nat.zero_add, Nat.mul_one, List.set_set]; exact hrow.symm)
                all_goals (try simp only [Unit.unit, Int.ofNat_lt, Int.ofNat_le, BE.val, IE.val, NE.val, ltB_iff, ltB_no, leB_iff, leB_no, Int.toNat_natCast, Nat.zero_add, Nat.add_zero, Nat.mul_one, forced, beq_iff_eq, beq_eq_false_iff_ne, bne_iff_ne, bne_eq_false_iff_eq] at *)
                all_goals first | with_reducible rfl | exact True.intro | omega | exact wrap64_nat (by omega) | rfl | trace_state
          · have hk5 : k ⟨⟩ = 4 := by omega
            refine Br.f (kj_ge4 hk4) ?_
            cbv
            have hend : (rowI (L ⟨⟩) (dmM (L ⟨⟩) (shI (L ⟨⟩) (a ⟨⟩, s ⟨⟩) (c ⟨⟩)).1) (c ⟨⟩) (dmQ (L ⟨⟩) (shI (L ⟨⟩) (a ⟨⟩, s ⟨⟩) (c ⟨⟩)).1) (shI (L ⟨⟩) (a ⟨⟩, s ⟨⟩) (c ⟨⟩)).2 (k ⟨⟩)) = shI (L ⟨⟩) (a ⟨⟩, s ⟨⟩) (c ⟨⟩ + 1) := by rw [hk5]; rfl
            repeat' first
              | (refine Ob.mk ?_ ?_; rotate_left; cbv)
              | (refine Next.mk (fun _ => c () + 1) ?_ ?_ ?_)
            all_goals try (first | exact congrArg (fun z => z.1.1) hend | exact congrArg (fun z => z.1.2) hend | exact congrArg (fun z => z.2) hend)
            all_goals (try simp only [Unit.unit, Int.ofNat_lt, Int.ofNat_le, BE.val, IE.val, NE.val, ltB_iff, ltB_no, leB_iff, leB_no, Int.toNat_natCast, Nat.zero_add, Nat.add_zero, Nat.mul_one, forced, beq_iff_eq, beq_eq_false_iff_ne, bne_iff_ne, bne_eq_false_iff_eq] at *)
            all_goals first | with_reducible rfl | exact True.intro | omega | exact wrap64_nat (by omega) | rfl | trace_state
      · have hc5 : c ⟨⟩ = 4 := by omega
        refine Br.f (kj_ge4 hc4) ?_
        cbv
        repeat' (refine Ob.mk ?_ ?_; (focus (first | exact rfl | exact ⟨hq1.1, Int.le_trans hq1.2 (by decide)⟩ | exact Int.le_trans hq1.2 (by decide) | exact ⟨ho0, hlen, hbig, hby⟩ | exact ⟨by trivial, hlen, hbig, hby⟩)); cbv)
        have hQ : pkQ (L ⟨⟩) 12 (shI (L ⟨⟩) (a ⟨⟩, s ⟨⟩) (c ⟨⟩)).1 = shQ (L ⟨⟩) (a ⟨⟩, s ⟨⟩) := by rw [hc5]; rfl
        refine Br.mk (fun hy => ?_) (fun hy => ?_)
        · have hy' : (pkV (L ⟨⟩) 12 (shI (L ⟨⟩) (a ⟨⟩, s ⟨⟩) 4).1 == 0) = true := by rw [← hc5]; exact hy
          have hv : shL (L ⟨⟩) (a ⟨⟩, s ⟨⟩) = same4 (shI (L ⟨⟩) (a ⟨⟩, s ⟨⟩) 4).2 := if_pos hy'
          have hA : ∀ i, (((same4 (shI (L ⟨⟩) (a ⟨⟩, s ⟨⟩) (c ⟨⟩)).2)).getD i (0, 0)).1 = ((shL (L ⟨⟩) (a ⟨⟩, s ⟨⟩)).getD i (0, 0)).1 := fun i => by rw [hv, hc5]
          have hB : ∀ i, (((same4 (shI (L ⟨⟩) (a ⟨⟩, s ⟨⟩) (c ⟨⟩)).2)).getD i (0, 0)).2 = ((shL (L ⟨⟩) (a ⟨⟩, s ⟨⟩)).getD i (0, 0)).2 := fun i => by rw [hv, hc5]
          cbv
          repeat' (refine Ob.mk ?_ ?_; (focus (first | exact hA _ | exact hB _ | exact congrArg Prod.fst hQ | exact congrArg Prod.snd hQ | exact rfl | (dsimp only [IE.val, NE.val]; rw [hls]; decide) | (dsimp only [IE.val, NE.val]; simp only [List.length_set]; rw [hls]; decide) | trace_state)); cbv)
        · have hy' : (pkV (L ⟨⟩) 12 (shI (L ⟨⟩) (a ⟨⟩, s ⟨⟩) 4).1 == 0) = false := by rw [← hc5]; exact hy
          have hv : shL (L ⟨⟩) (a ⟨⟩, s ⟨⟩) = (shI (L ⟨⟩) (a ⟨⟩, s ⟨⟩) 4).2 := if_neg (by rw [hy']; decide)
          have hA : ∀ i, (((shI (L ⟨⟩) (a ⟨⟩, s ⟨⟩) (c ⟨⟩)).2).getD i (0, 0)).1 = ((shL (L ⟨⟩) (a ⟨⟩, s ⟨⟩)).getD i (0, 0)).1 := fun i => by rw [hv, hc5]
          have hB : ∀ i, (((shI (L ⟨⟩) (a ⟨⟩, s ⟨⟩) (c ⟨⟩)).2).getD i (0, 0)).2 = ((shL (L ⟨⟩) (a ⟨⟩, s ⟨⟩)).getD i (0, 0)).2 := fun i => by rw [hv, hc5]
          cbv
          repeat' (refine Ob.mk ?_ ?_; (focus (first | exact hA _ | exact hB _ | exact congrArg Prod.fst hQ | exact congrArg Prod.snd hQ | exact rfl | (dsimp only [IE.val, NE.val]; rw [hls]; decide) | (dsimp only [IE.val, NE.val]; simp only [List.length_set]; rw [hls]; decide) | trace_state)); cbv)
  · rename_i a s
    cases hs
    obtain ⟨⟨ha0, ha1⟩, hx0⟩ := ho.two
    have hby := bytes_nil
    try simp only [Unit.unit] at ha0 ha1 hx0
    refine ⟨_, HLe.refl _, ?_⟩
    cbv
    have hq0 : qIn 1000 (a ⟨⟩, s ⟨⟩) := ⟨ha0, hx0⟩
    repeat' (refine Ob.mk ?_ ?_; rotate_left; cbv)
    refine loop_rule (α := Unit → Nat) (c := ⟨tt, E50, 1⟩) (fun c => fr 67 [(0, .c (.p 0 (.l 0))), (2, .c (.p 1 (.l 0))), (3, .c (.p 2 (.l 0))), (4, .c (.p 3 (.l 0))), (5, .c (.i .i64 (.x fun _ => (c () : Int))))]) (fun c => [some ⟨true, 0, .lit [.sn, .i .i64 (.x fun _ => ((shI [] (a (), s ()) (c ())).1).1), .i .u64 (.x fun _ => ((shI [] (a (), s ()) (c ())).1).2)]⟩, some ⟨true, 0, .lit [.z .f32 (fun _ => 0) (fun _ => 0), .z .f32 (fun _ => 0) (fun _ => 0), .z .f32 (fun _ => 0) (fun _ => 0), .z .f32 (fun _ => 0) (fun _ => 0), .z .f32 (fun _ => 0) (fun _ => 0), .z .f32 (fun _ => 0) (fun _ => 0), .z .f32 (fun _ => 0) (fun _ => 0), .z .f32 (fun _ => 0) (fun _ => 0), .z .f32 (fun _ => 0) (fun _ => 0), .z .f32 (fun _ => 0) (fun _ => 0), .z .f32 (fun _ => 0) (fun _ => 0), .z .f32 (fun _ => 0) (fun _ => 0), .z .f32 (fun _ => 0) (fun _ => 0), .z .f32 (fun _ => 0) (fun _ => 0), .z .f32 (fun _ => 0) (fun _ => 0), .z .f32 (fun _ => 0) (fun _ => 0)]⟩, some ⟨true, 0, .cx fun _ => (shI [] (a (), s ()) (c ())).2⟩, some ⟨true, 0, .lit [.z .f32 (fun _ => 0) (fun _ => 0), .z .f32 (fun _ => 1120403456) (fun _ => 0), .z .f32 (fun _ => 1120403456) (fun _ => 1117782016), .z .f32 (fun _ => 0) (fun _ => 1117782016)]⟩])
        (fun c => c () ≤ 4) (fun c => 4 - c ()) (fun _ => 5) ?_ ?_
    · refine .mk (fun _ => 0) (Nat.zero_le _) (by decide) ?_
      cbv
      repeat' (refine Ob.mk ?_ ?_; rotate_left)
      all_goals first | exact rfl | exact True.intro | rfl
    · intro c hc
      have hc : c ⟨⟩ ≤ 4 := hc
      have hq1 : qIn 1112 (shI [] (a ⟨⟩, s ⟨⟩) (c ⟨⟩)).1 := qIn_le (shI_in hq0 (c ⟨⟩)) (by omega)
      have hls := shI_len [] (a ⟨⟩, s ⟨⟩) (c ⟨⟩)
      cbv
      by_cases hc4 : c ⟨⟩ < 4
      · have hci : 0 ≤ ((c ⟨⟩ : Nat) : Int) ∧ ((c ⟨⟩ : Nat) : Int) < ((4 : Nat) : Int) := by omega
        refine Br.t (kj_lt4 hc4) ?_
        cbv
        repeat' (refine Ob.mk ?_ ?_; (focus (first | exact rfl | exact ⟨hq1.1, Int.le_trans hq1.2 (by decide)⟩ | exact Int.le_trans hq1.2 (by decide))); cbv)
        refine loop_rule (α := Unit → Nat) (c := ⟨tt, E50, 1⟩) (fun k => fr 67 [(0, .c (.p 0 (.l 0))), (2, .c (.p 1 (.l 0))), (3, .c (.p 2 (.l 0))), (4, .c (.p 3 (.l 0))), (5, .c (.i .i64 (.x fun _ => (c () : Int)))), (6, Zm (dmM [] (shI [] (a (), s ()) (c ())).1)), (7, .c (.i .i64 (.x fun _ => (k () : Int))))]) (fun k => [some ⟨true, 0, .lit [.sn, .i .i64 (.x fun _ => ((rowI [] (dmM [] (shI [] (a (), s ()) (c ())).1) (c ()) (dmQ [] (shI [] (a (), s ()) (c ())).1) (shI [] (a (), s ()) (c ())).2 (k ())).1).1), .i .u64 (.x fun _ => ((rowI [] (dmM [] (shI [] (a (), s ()) (c ())).1) (c ()) (dmQ [] (shI [] (a (), s ()) (c ())).1) (shI [] (a (), s ()) (c ())).2 (k ())).1).2)]⟩, some ⟨true, 0, .lit [.z .f32 (fun _ => 0) (fun _ => 0), .z .f32 (fun _ => 0) (fun _ => 0), .z .f32 (fun _ => 0) (fun _ => 0), .z .f32 (fun _ => 0) (fun _ => 0), .z .f32 (fun _ => 0) (fun _ => 0), .z .f32 (fun _ => 0) (fun _ => 0), .z .f32 (fun _ => 0) (fun _ => 0), .z .f32 (fun _ => 0) (fun _ => 0), .z .f32 (fun _ => 0) (fun _ => 0), .z .f32 (fun _ => 0) (fun _ => 0), .z .f32 (fun _ => 0) (fun _ => 0), .z .f32 (fun _ => 0) (fun _ => 0), .z .f32 (fun _ => 0) (fun _ => 0), .z .f32 (fun _ => 0) (fun _ => 0), .z .f32 (fun _ => 0) (fun _ => 0), .z .f32 (fun _ => 0) (fun _ => 0)]⟩, some ⟨true, 0, .cx fun _ => (rowI [] (dmM [] (shI [] (a (), s ()) (c ())).1) (c ()) (dmQ [] (shI [] (a (), s ()) (c ())).1) (shI [] (a (), s ()) (c ())).2 (k ())).2⟩, some ⟨true, 0, .lit [.z .f32 (fun _ => 0) (fun _ => 0), .z .f32 (fun _ => 1120403456) (fun _ => 0), .z .f32 (fun _ => 1120403456) (fun _ => 1117782016), .z .f32 (fun _ => 0) (fun _ => 1117782016)]⟩])
            (fun k => k () ≤ 4) (fun k => 4 - k ()) (fun _ => 5) ?_ ?_
        · refine .mk (fun _ => 0) (Nat.zero_le _) (by decide) ?_
          cbv
          repeat' (refine Ob.mk ?_ ?_; rotate_left)
          all_goals first | exact rfl | exact True.intro | rfl
        · intro k hk
          have hk : k ⟨⟩ ≤ 4 := hk
          have hq2 : qIn 1200 (dmQ [] (shI [] (a ⟨⟩, s ⟨⟩) (c ⟨⟩)).1) := qIn_le (dmQ_in hq1) (by decide)
          have hq3 : qIn 1300 (rowI [] (dmM [] (shI [] (a ⟨⟩, s ⟨⟩) (c ⟨⟩)).1) (c ⟨⟩) (dmQ [] (shI [] (a ⟨⟩, s ⟨⟩) (c ⟨⟩)).1) (shI [] (a ⟨⟩, s ⟨⟩) (c ⟨⟩)).2 (k ⟨⟩)).1 := qIn_le (rowI_in hq2 (k ⟨⟩)) (by omega)
          have hlr : (rowI [] (dmM [] (shI [] (a ⟨⟩, s ⟨⟩) (c ⟨⟩)).1) (c ⟨⟩) (dmQ [] (shI [] (a ⟨⟩, s ⟨⟩) (c ⟨⟩)).1) (shI [] (a ⟨⟩, s ⟨⟩) (c ⟨⟩)).2 (k ⟨⟩)).2.length = 16 := by rw [rowI_len, hls]
          cbv
          by_cases hk4 : k ⟨⟩ < 4
          · have hki : 0 ≤ ((k ⟨⟩ : Nat) : Int) ∧ ((k ⟨⟩ : Nat) : Int) < ((4 : Nat) : Int) := by omega
            refine Br.t (kj_lt4 hk4) ?_
            cbv
            repeat' first
              | (refine Ob.mk ?_ ?_; (focus (first | exact hki | exact hci | exact rfl | (dsimp only [IE.val, NE.val, IE.nat, forced, List.length_cons, List.length_nil, Int.toNat_natCast]; simp only [List.length_set, Int.toNat_natCast, hlr]; omega) | (dsimp only [IE.val, NE.val, IE.nat, forced, List.length_cons, List.length_nil, Int.toNat_natCast]; omega) | exact hci | exact hki)); cbv)
              | (refine Lex.pull [0, 1, 2, 3, 4, 5, 6] (by decide +kernel) ?_; cbv)
            by_cases hc0 : 0 < c ⟨⟩
            · refine Br.t (ltB_iff.2 (Int.natCast_pos.2 hc0)) ?_
              cbv
              repeat' first
                | (refine Ob.mk ?_ ?_; (focus (first | exact hki | exact hci | exact rfl | exact ⟨hq3.1, Int.le_trans hq3.2 (by decide)⟩ | exact Int.le_trans hq3.2 (by decide) | (dsimp only [IE.val, NE.val, IE.nat, forced, List.length_cons, List.length_nil, Int.toNat_natCast]; simp only [List.length_set, Int.toNat_natCast, hlr]; omega) | (dsimp only [IE.val, NE.val, IE.nat, forced, List.length_cons, List.length_nil, Int.toNat_natCast]; omega) | exact hci | exact hki)); cbv)
                | (refine Lex.pull [0, 1, 2, 3, 4, 5, 6, 7, 8] (by decide +kernel) ?_; cbv)
              refine Br.mk (fun hy => ?_) (fun hy => ?_)
              · have hy : (pkV [] 4 (rowI [] (dmM [] (shI [] (a ⟨⟩, s ⟨⟩) (c ⟨⟩)).1) (c ⟨⟩) (dmQ [] (shI [] (a ⟨⟩, s ⟨⟩) (c ⟨⟩)).1) (shI [] (a ⟨⟩, s ⟨⟩) (c ⟨⟩)).2 (k ⟨⟩)).1 == 0) = true := hy
                have hrow : (rowI [] (dmM [] (shI [] (a ⟨⟩, s ⟨⟩) (c ⟨⟩)).1) (c ⟨⟩) (dmQ [] (shI [] (a ⟨⟩, s ⟨⟩) (c ⟨⟩)).1) (shI [] (a ⟨⟩, s ⟨⟩) (c ⟨⟩)).2 (k ⟨⟩ + 1)).2 = (rowI [] (dmM [] (shI [] (a ⟨⟩, s ⟨⟩) (c ⟨⟩)).1) (c ⟨⟩) (dmQ [] (shI [] (a ⟨⟩, s ⟨⟩) (c ⟨⟩)).1) (shI [] (a ⟨⟩, s ⟨⟩) (c ⟨⟩)).2 (k ⟨⟩)).2.set (c ⟨⟩ * 4 + k ⟨⟩) (dmM [] (pkQ [] 4 (rowI [] (dmM [] (shI [] (a ⟨⟩, s ⟨⟩) (c ⟨⟩)).1) (c ⟨⟩) (dmQ [] (shI [] (a ⟨⟩, s ⟨⟩) (c ⟨⟩)).1) (shI [] (a ⟨⟩, s ⟨⟩) (c ⟨⟩)).2 (k ⟨⟩)).1)) := by
                  show (rowI [] (dmM [] (shI [] (a ⟨⟩, s ⟨⟩) (c ⟨⟩)).1) (c ⟨⟩) (dmQ [] (shI [] (a ⟨⟩, s ⟨⟩) (c ⟨⟩)).1) (shI [] (a ⟨⟩, s ⟨⟩) (c ⟨⟩)).2 (k ⟨⟩)).2.set (c ⟨⟩ * 4 + k ⟨⟩) (cellV [] (rowI [] (dmM [] (shI [] (a ⟨⟩, s ⟨⟩) (c ⟨⟩)).1) (c ⟨⟩) (dmQ [] (shI [] (a ⟨⟩, s ⟨⟩) (c ⟨⟩)).1) (shI [] (a ⟨⟩, s ⟨⟩) (c ⟨⟩)).2 (k ⟨⟩)).1 (cellB (dmM [] (shI [] (a ⟨⟩, s ⟨⟩) (c ⟨⟩)).1) (c ⟨⟩) (k ⟨⟩))) = _
                  rw [show cellV [] (rowI [] (dmM [] (shI [] (a ⟨⟩, s ⟨⟩) (c ⟨⟩)).1) (c ⟨⟩) (dmQ [] (shI [] (a ⟨⟩, s ⟨⟩) (c ⟨⟩)).1) (shI [] (a ⟨⟩, s ⟨⟩) (c ⟨⟩)).2 (k ⟨⟩)).1 (cellB (dmM [] (shI [] (a ⟨⟩, s ⟨⟩) (c ⟨⟩)).1) (c ⟨⟩) (k ⟨⟩)) = dmM [] (pkQ [] 4 (rowI [] (dmM [] (shI [] (a ⟨⟩, s ⟨⟩) (c ⟨⟩)).1) (c ⟨⟩) (dmQ [] (shI [] (a ⟨⟩, s ⟨⟩) (c ⟨⟩)).1) (shI [] (a ⟨⟩, s ⟨⟩) (c ⟨⟩)).2 (k ⟨⟩)).1) from by unfold cellV; exact if_pos hy]
                have hqn : (rowI [] (dmM [] (shI [] (a ⟨⟩, s ⟨⟩) (c ⟨⟩)).1) (c ⟨⟩) (dmQ [] (shI [] (a ⟨⟩, s ⟨⟩) (c ⟨⟩)).1) (shI [] (a ⟨⟩, s ⟨⟩) (c ⟨⟩)).2 (k ⟨⟩ + 1)).1 = dmQ [] (pkQ [] 4 (rowI [] (dmM [] (shI [] (a ⟨⟩, s ⟨⟩) (c ⟨⟩)).1) (c ⟨⟩) (dmQ [] (shI [] (a ⟨⟩, s ⟨⟩) (c ⟨⟩)).1) (shI [] (a ⟨⟩, s ⟨⟩) (c ⟨⟩)).2 (k ⟨⟩)).1) := if_pos hy
                have hq5 : qIn 1900 (pkQ [] 4 (rowI [] (dmM [] (shI [] (a ⟨⟩, s ⟨⟩) (c ⟨⟩)).1) (c ⟨⟩) (dmQ [] (shI [] (a ⟨⟩, s ⟨⟩) (c ⟨⟩)).1) (shI [] (a ⟨⟩, s ⟨⟩) (c ⟨⟩)).2 (k ⟨⟩)).1) := qIn_le (qIn_pk hq3) (by decide)
                cbv
                repeat' first
                  | (refine Ob.mk ?_ ?_; (focus (first | exact rfl | exact ⟨hq3.1, Int.le_trans hq3.2 (by decide)⟩ | exact Int.le_trans hq3.2 (by decide) | exact ⟨hq5.1, Int.le_trans hq5.2 (by decide)⟩ | exact Int.le_trans hq5.2 (by decide) | (dsimp only [IE.val, NE.val, IE.nat, forced, List.length_cons, List.length_nil, Int.toNat_natCast]; simp only [List.length_set, Int.toNat_natCast, hlr]; omega) | (dsimp only [IE.val, NE.val, IE.nat, forced, List.length_cons, List.length_nil, Int.toNat_natCast]; omega) | exact hci | exact hki | exact wrap64_nat (by omega) | exact (congrArg Prod.fst hqn).symm | exact (congrArg Prod.snd hqn).symm | (dsimp only [IE.val, NE.val, IE.nat, forced]; simp only [Int.toNat_natCast, Nat.zero_add, Nat.mul_one, List.set_set]; exact hrow.symm))); cbv)
                  | (refine Lex.pull [0, 1, 2, 4, 5] (by decide +kernel) ?_; cbv)
                  | (refine Lex.pull [0, 1, 2] (by decide +kernel) ?_; cbv)
                  | (refine Lex.tail 3 (by decide +kernel) ?_; cbv)
                  | (refine Both.mk ?_ ?_ <;> cbv)
                  | (refine Next.mk (fun _ => k () + 1) ?_ ?_ ?_)
                all_goals try (first | exact (congrArg Prod.fst hqn).symm | exact (congrArg Prod.snd hqn).symm)
                all_goals try (dsimp only [IE.val, NE.val, IE.nat, forced]; simp only [Int.toNat_natCast, Nat.zero_add, Nat.mul_one, List.set_set]; exact hrow.symm)
                all_goals (try simp only [Unit.unit, Int.ofNat_lt, Int.ofNat_le, BE.val, IE.val, NE.val, ltB_iff, ltB_no, leB_iff, leB_no, Int.toNat_natCast, Nat.zero_add, Nat.add_zero, Nat.mul_one, forced, beq_iff_eq, beq_eq_false_iff_ne, bne_iff_ne, bne_eq_false_iff_eq] at *)
                all_goals first | with_reducible rfl | exact True.intro | omega | exact wrap64_nat (by omega) | rfl | trace_state
              · have hy : (pkV [] 4 (rowI [] (dmM [] (shI [] (a ⟨⟩, s ⟨⟩) (c ⟨⟩)).1) (c ⟨⟩) (dmQ [] (shI [] (a ⟨⟩, s ⟨⟩) (c ⟨⟩)).1) (shI [] (a ⟨⟩, s ⟨⟩) (c ⟨⟩)).2 (k ⟨⟩)).1 == 0) = false := hy
                have hrow : (rowI [] (dmM [] (shI [] (a ⟨⟩, s ⟨⟩) (c ⟨⟩)).1) (c ⟨⟩) (dmQ [] (shI [] (a ⟨⟩, s ⟨⟩) (c ⟨⟩)).1) (shI [] (a ⟨⟩, s ⟨⟩) (c ⟨⟩)).2 (k ⟨⟩ + 1)).2 = (rowI [] (dmM [] (shI [] (a ⟨⟩, s ⟨⟩) (c ⟨⟩)).1) (c ⟨⟩) (dmQ [] (shI [] (a ⟨⟩, s ⟨⟩) (c ⟨⟩)).1) (shI [] (a ⟨⟩, s ⟨⟩) (c ⟨⟩)).2 (k ⟨⟩)).2.set (c ⟨⟩ * 4 + k ⟨⟩) (plusM (cnr (k ⟨⟩)) (dmM [] (shI [] (a ⟨⟩, s ⟨⟩) (c ⟨⟩)).1)) := by
                  show (rowI [] (dmM [] (shI [] (a ⟨⟩, s ⟨⟩) (c ⟨⟩)).1) (c ⟨⟩) (dmQ [] (shI [] (a ⟨⟩, s ⟨⟩) (c ⟨⟩)).1) (shI [] (a ⟨⟩, s ⟨⟩) (c ⟨⟩)).2 (k ⟨⟩)).2.set (c ⟨⟩ * 4 + k ⟨⟩) (cellV [] (rowI [] (dmM [] (shI [] (a ⟨⟩, s ⟨⟩) (c ⟨⟩)).1) (c ⟨⟩) (dmQ [] (shI [] (a ⟨⟩, s ⟨⟩) (c ⟨⟩)).1) (shI [] (a ⟨⟩, s ⟨⟩) (c ⟨⟩)).2 (k ⟨⟩)).1 (cellB (dmM [] (shI [] (a ⟨⟩, s ⟨⟩) (c ⟨⟩)).1) (c ⟨⟩) (k ⟨⟩))) = _
                  rw [show cellV [] (rowI [] (dmM [] (shI [] (a ⟨⟩, s ⟨⟩) (c ⟨⟩)).1) (c ⟨⟩) (dmQ [] (shI [] (a ⟨⟩, s ⟨⟩) (c ⟨⟩)).1) (shI [] (a ⟨⟩, s ⟨⟩) (c ⟨⟩)).2 (k ⟨⟩)).1 (cellB (dmM [] (shI [] (a ⟨⟩, s ⟨⟩) (c ⟨⟩)).1) (c ⟨⟩) (k ⟨⟩)) = plusM (cnr (k ⟨⟩)) (dmM [] (shI [] (a ⟨⟩, s ⟨⟩) (c ⟨⟩)).1) from by unfold cellV; rw [if_neg (by rw [hy]; decide)]; exact if_pos hc0]
                have hqn : (rowI [] (dmM [] (shI [] (a ⟨⟩, s ⟨⟩) (c ⟨⟩)).1) (c ⟨⟩) (dmQ [] (shI [] (a ⟨⟩, s ⟨⟩) (c ⟨⟩)).1) (shI [] (a ⟨⟩, s ⟨⟩) (c ⟨⟩)).2 (k ⟨⟩ + 1)).1 = pkQ [] 4 (rowI [] (dmM [] (shI [] (a ⟨⟩, s ⟨⟩) (c ⟨⟩)).1) (c ⟨⟩) (dmQ [] (shI [] (a ⟨⟩, s ⟨⟩) (c ⟨⟩)).1) (shI [] (a ⟨⟩, s ⟨⟩) (c ⟨⟩)).2 (k ⟨⟩)).1 := if_neg (by rw [hy]; decide)
                cbv
                repeat' first
                  | (refine Ob.mk ?_ ?_; (focus (first | exact rfl | exact ⟨hq3.1, Int.le_trans hq3.2 (by decide)⟩ | exact Int.le_trans hq3.2 (by decide) | (dsimp only [IE.val, NE.val, IE.nat, forced, List.length_cons, List.length_nil, Int.toNat_natCast]; simp only [List.length_set, Int.toNat_natCast, hlr]; omega) | (dsimp only [IE.val, NE.val, IE.nat, forced, List.length_cons, List.length_nil, Int.toNat_natCast]; omega) | exact hci | exact hki | exact wrap64_nat (by omega) | exact (congrArg Prod.fst hqn).symm | exact (congrArg Prod.snd hqn).symm | (dsimp only [IE.val, NE.val, IE.nat, forced]; simp only [Int.toNat_natCast, Nat.zero_add, Nat.mul_one, List.set_set]; exact hrow.symm))); cbv)
                  | (refine Lex.pull [0, 1, 2, 4, 5] (by decide +kernel) ?_; cbv)
                  | (refine Lex.pull [0, 1, 2] (by decide +kernel) ?_; cbv)
                  | (refine Lex.tail 3 (by decide +kernel) ?_; cbv)
                  | (refine Both.mk ?_ ?_ <;> cbv)
                  | (refine Next.mk (fun _ => k () + 1) ?_ ?_ ?_)
                all_goals try (first | exact (congrArg Prod.fst hqn).symm | exact (congrArg Prod.snd hqn).symm)
                all_goals try (dsimp only [IE.val, NE.val, IE.nat, forced]; simp only [Int.toNat_natCast, Nat.zero_add, Nat.mul_one, List.set_set]; exact hrow.symm)
                all_goals (try simp only [Unit.unit, Int.ofNat_lt, Int.ofNat_le, BE.val, IE.val, NE.val, ltB_iff, ltB_no, leB_iff, leB_no, Int.toNat_natCast, Nat.zero_add, Nat.add_zero, Nat.mul_one, forced, beq_iff_eq, beq_eq_false_iff_ne, bne_iff_ne, bne_eq_false_iff_eq] at *)
                all_goals first | with_reducible rfl | exact True.intro | omega | exact wrap64_nat (by omega) | rfl | trace_state
            · refine Br.f (ltB_no.2 (fun h => hc0 (Int.natCast_pos.1 h))) ?_
              cbv
              repeat' first
                | (refine Ob.mk ?_ ?_; (focus (first | exact hki | exact hci | exact rfl | exact ⟨hq3.1, Int.le_trans hq3.2 (by decide)⟩ | exact Int.le_trans hq3.2 (by decide) | (dsimp only [IE.val, NE.val, IE.nat, forced, List.length_cons, List.length_nil, Int.toNat_natCast]; simp only [List.length_set, Int.toNat_natCast, hlr]; omega) | (dsimp only [IE.val, NE.val, IE.nat, forced, List.length_cons, List.length_nil, Int.toNat_natCast]; omega) | exact hci | exact hki)); cbv)
              refine Br.mk (fun hy => ?_) (fun hy => ?_)
              · have hy : (pkV [] 4 (rowI [] (dmM [] (shI [] (a ⟨⟩, s ⟨⟩) (c ⟨⟩)).1) (c ⟨⟩) (dmQ [] (shI [] (a ⟨⟩, s ⟨⟩) (c ⟨⟩)).1) (shI [] (a ⟨⟩, s ⟨⟩) (c ⟨⟩)).2 (k ⟨⟩)).1 == 0) = true := hy
                have hrow : (rowI [] (dmM [] (shI [] (a ⟨⟩, s ⟨⟩) (c ⟨⟩)).1) (c ⟨⟩) (dmQ [] (shI [] (a ⟨⟩, s ⟨⟩) (c ⟨⟩)).1) (shI [] (a ⟨⟩, s ⟨⟩) (c ⟨⟩)).2 (k ⟨⟩ + 1)).2 = (rowI [] (dmM [] (shI [] (a ⟨⟩, s ⟨⟩) (c ⟨⟩)).1) (c ⟨⟩) (dmQ [] (shI [] (a ⟨⟩, s ⟨⟩) (c ⟨⟩)).1) (shI [] (a ⟨⟩, s ⟨⟩) (c ⟨⟩)).2 (k ⟨⟩)).2.set (c ⟨⟩ * 4 + k ⟨⟩) (dmM [] (pkQ [] 4 (rowI [] (dmM [] (shI [] (a ⟨⟩, s ⟨⟩) (c ⟨⟩)).1) (c ⟨⟩) (dmQ [] (shI [] (a ⟨⟩, s ⟨⟩) (c ⟨⟩)).1) (shI [] (a ⟨⟩, s ⟨⟩) (c ⟨⟩)).2 (k ⟨⟩)).1)) := by
                  show (rowI [] (dmM [] (shI [] (a ⟨⟩, s ⟨⟩) (c ⟨⟩)).1) (c ⟨⟩) (dmQ [] (shI [] (a ⟨⟩, s ⟨⟩) (c ⟨⟩)).1) (shI [] (a ⟨⟩, s ⟨⟩) (c ⟨⟩)).2 (k ⟨⟩)).2.set (c ⟨⟩ * 4 + k ⟨⟩) (cellV [] (rowI [] (dmM [] (shI [] (a ⟨⟩, s ⟨⟩) (c ⟨⟩)).1) (c ⟨⟩) (dmQ [] (shI [] (a ⟨⟩, s ⟨⟩) (c ⟨⟩)).1) (shI [] (a ⟨⟩, s ⟨⟩) (c ⟨⟩)).2 (k ⟨⟩)).1 (cellB (dmM [] (shI [] (a ⟨⟩, s ⟨⟩) (c ⟨⟩)).1) (c ⟨⟩) (k ⟨⟩))) = _
                  rw [show cellV [] (rowI [] (dmM [] (shI [] (a ⟨⟩, s ⟨⟩) (c ⟨⟩)).1) (c ⟨⟩) (dmQ [] (shI [] (a ⟨⟩, s ⟨⟩) (c ⟨⟩)).1) (shI [] (a ⟨⟩, s ⟨⟩) (c ⟨⟩)).2 (k ⟨⟩)).1 (cellB (dmM [] (shI [] (a ⟨⟩, s ⟨⟩) (c ⟨⟩)).1) (c ⟨⟩) (k ⟨⟩)) = dmM [] (pkQ [] 4 (rowI [] (dmM [] (shI [] (a ⟨⟩, s ⟨⟩) (c ⟨⟩)).1) (c ⟨⟩) (dmQ [] (shI [] (a ⟨⟩, s ⟨⟩) (c ⟨⟩)).1) (shI [] (a ⟨⟩, s ⟨⟩) (c ⟨⟩)).2 (k ⟨⟩)).1) from by unfold cellV; exact if_pos hy]
                have hqn : (rowI [] (dmM [] (shI [] (a ⟨⟩, s ⟨⟩) (c ⟨⟩)).1) (c ⟨⟩) (dmQ [] (shI [] (a ⟨⟩, s ⟨⟩) (c ⟨⟩)).1) (shI [] (a ⟨⟩, s ⟨⟩) (c ⟨⟩)).2 (k ⟨⟩ + 1)).1 = dmQ [] (pkQ [] 4 (rowI [] (dmM [] (shI [] (a ⟨⟩, s ⟨⟩) (c ⟨⟩)).1) (c ⟨⟩) (dmQ [] (shI [] (a ⟨⟩, s ⟨⟩) (c ⟨⟩)).1) (shI [] (a ⟨⟩, s ⟨⟩) (c ⟨⟩)).2 (k ⟨⟩)).1) := if_pos hy
                have hq5 : qIn 1900 (pkQ [] 4 (rowI [] (dmM [] (shI [] (a ⟨⟩, s ⟨⟩) (c ⟨⟩)).1) (c ⟨⟩) (dmQ [] (shI [] (a ⟨⟩, s ⟨⟩) (c ⟨⟩)).1) (shI [] (a ⟨⟩, s ⟨⟩) (c ⟨⟩)).2 (k ⟨⟩)).1) := qIn_le (qIn_pk hq3) (by decide)
                cbv
                repeat' first
                  | (refine Ob.mk ?_ ?_; (focus (first | exact rfl | exact ⟨hq3.1, Int.le_trans hq3.2 (by decide)⟩ | exact Int.le_trans hq3.2 (by decide) | exact ⟨hq5.1, Int.le_trans hq5.2 (by decide)⟩ | exact Int.le_trans hq5.2 (by decide) | (dsimp only [IE.val, NE.val, IE.nat, forced, List.length_cons, List.length_nil, Int.toNat_natCast]; simp only [List.length_set, Int.toNat_natCast, hlr]; omega) | (dsimp only [IE.val, NE.val, IE.nat, forced, List.length_cons, List.length_nil, Int.toNat_natCast]; omega) | exact hci | exact hki | exact wrap64_nat (by omega) | exact (congrArg Prod.fst hqn).symm | exact (congrArg Prod.snd hqn).symm | (dsimp only [IE.val, NE.val, IE.nat, forced]; simp only [Int.toNat_natCast, Nat.zero_add, Nat.mul_one, List.set_set]; exact hrow.symm))); cbv)
                  | (refine Lex.pull [0, 1, 2, 4, 5] (by decide +kernel) ?_; cbv)
                  | (refine Lex.pull [0, 1, 2] (by decide +kernel) ?_; cbv)
                  | (refine Lex.tail 3 (by decide +kernel) ?_; cbv)
                  | (refine Both.mk ?_ ?_ <;> cbv)
                  | (refine Next.mk (fun _ => k () + 1) ?_ ?_ ?_)
                all_goals try (first | exact (congrArg Prod.fst hqn).symm | exact (congrArg Prod.snd hqn).symm)
                all_goals try (dsimp only [IE.val, NE.val, IE.nat, forced]; simp only [Int.toNat_natCast, Nat.zero_add, Nat.mul_one, List.set_set]; exact hrow.symm)
                all_goals (try simp only [Unit.unit, Int.ofNat_lt, Int.ofNat_le, BE.val, IE.val, NE.val, ltB_iff, ltB_no, leB_iff, leB_no, Int.toNat_natCast, Nat.zero_add, Nat.add_zero, Nat.mul_one, forced, beq_iff_eq, beq_eq_false_iff_ne, bne_iff_ne, bne_eq_false_iff_eq] at *)
                all_goals first | with_reducible rfl | exact True.intro | omega | exact wrap64_nat (by omega) | rfl | trace_state
              · have hy : (pkV [] 4 (rowI [] (dmM [] (shI [] (a ⟨⟩, s ⟨⟩) (c ⟨⟩)).1) (c ⟨⟩) (dmQ [] (shI [] (a ⟨⟩, s ⟨⟩) (c ⟨⟩)).1) (shI [] (a ⟨⟩, s ⟨⟩) (c ⟨⟩)).2 (k ⟨⟩)).1 == 0) = false := hy
                have hrow : (rowI [] (dmM [] (shI [] (a ⟨⟩, s ⟨⟩) (c ⟨⟩)).1) (c ⟨⟩) (dmQ [] (shI [] (a ⟨⟩, s ⟨⟩) (c ⟨⟩)).1) (shI [] (a ⟨⟩, s ⟨⟩) (c ⟨⟩)).2 (k ⟨⟩ + 1)).2 = (rowI [] (dmM [] (shI [] (a ⟨⟩, s ⟨⟩) (c ⟨⟩)).1) (c ⟨⟩) (dmQ [] (shI [] (a ⟨⟩, s ⟨⟩) (c ⟨⟩)).1) (shI [] (a ⟨⟩, s ⟨⟩) (c ⟨⟩)).2 (k ⟨⟩)).2.set (c ⟨⟩ * 4 + k ⟨⟩) (cnr (k ⟨⟩)) := by
                  show (rowI [] (dmM [] (shI [] (a ⟨⟩, s ⟨⟩) (c ⟨⟩)).1) (c ⟨⟩) (dmQ [] (shI [] (a ⟨⟩, s ⟨⟩) (c ⟨⟩)).1) (shI [] (a ⟨⟩, s ⟨⟩) (c ⟨⟩)).2 (k ⟨⟩)).2.set (c ⟨⟩ * 4 + k ⟨⟩) (cellV [] (rowI [] (dmM [] (shI [] (a ⟨⟩, s ⟨⟩) (c ⟨⟩)).1) (c ⟨⟩) (dmQ [] (shI [] (a ⟨⟩, s ⟨⟩) (c ⟨⟩)).1) (shI [] (a ⟨⟩, s ⟨⟩) (c ⟨⟩)).2 (k ⟨⟩)).1 (cellB (dmM [] (shI [] (a ⟨⟩, s ⟨⟩) (c ⟨⟩)).1) (c ⟨⟩) (k ⟨⟩))) = _
                  rw [show cellV [] (rowI [] (dmM [] (shI [] (a ⟨⟩, s ⟨⟩) (c ⟨⟩)).1) (c ⟨⟩) (dmQ [] (shI [] (a ⟨⟩, s ⟨⟩) (c ⟨⟩)).1) (shI [] (a ⟨⟩, s ⟨⟩) (c ⟨⟩)).2 (k ⟨⟩)).1 (cellB (dmM [] (shI [] (a ⟨⟩, s ⟨⟩) (c ⟨⟩)).1) (c ⟨⟩) (k ⟨⟩)) = cnr (k ⟨⟩) from by unfold cellV; rw [if_neg (by rw [hy]; decide)]; exact if_neg hc0]
                have hqn : (rowI [] (dmM [] (shI [] (a ⟨⟩, s ⟨⟩) (c ⟨⟩)).1) (c ⟨⟩) (dmQ [] (shI [] (a ⟨⟩, s ⟨⟩) (c ⟨⟩)).1) (shI [] (a ⟨⟩, s ⟨⟩) (c ⟨⟩)).2 (k ⟨⟩ + 1)).1 = pkQ [] 4 (rowI [] (dmM [] (shI [] (a ⟨⟩, s ⟨⟩) (c ⟨⟩)).1) (c ⟨⟩) (dmQ [] (shI [] (a ⟨⟩, s ⟨⟩) (c ⟨⟩)).1) (shI [] (a ⟨⟩, s ⟨⟩) (c ⟨⟩)).2 (k ⟨⟩)).1 := if_neg (by rw [hy]; decide)
                cbv
                repeat' first
                  | (refine Ob.mk ?_ ?_; (focus (first | exact rfl | exact ⟨hq3.1, Int.le_trans hq3.2 (by decide)⟩ | exact Int.le_trans hq3.2 (by decide) | (dsimp only [IE.val, NE.val, IE.nat, forced, List.length_cons, List.length_nil, Int.toNat_natCast]; simp only [List.length_set, Int.toNat_natCast, hlr]; omega) | (dsimp only [IE.val, NE.val, IE.nat, forced, List.length_cons, List.length_nil, Int.toNat_natCast]; omega) | exact hci | exact hki | exact wrap64_nat (by omega) | exact (congrArg Prod.fst hqn).symm | exact (congrArg Prod.snd hqn).symm | (dsimp only [IE.val, NE.val, IE.nat, forced]; simp only [Int.toNat_natCast, Nat.zero_add, Nat.mul_one, List.set_set]; exact hrow.symm))); cbv)
                  | (refine Lex.pull [0, 1, 2, 4, 5] (by decide +kernel) ?_; cbv)
                  | (refine Lex.pull [0, 1, 2] (by decide +kernel) ?_; cbv)
                  | (refine Lex.tail 3 (by decide +kernel) ?_; cbv)
                  | (refine Both.mk ?_ ?_ <;> cbv)
                  | (refine Next.mk (fun _ => k () + 1) ?_ ?_ ?_)
                all_goals try (first | exact (congrArg Prod.fst hqn).symm | exact (congrArg Prod.snd hqn).symm)
                all_goals try (dsimp only [IE.val, NE.val, IE.nat, forced]; simp only [Int.toNat_natCast, Nat.zero_add, Nat.mul_one, List.set_set]; exact hrow.symm)
                all_goals (try simp only [Unit.unit, Int.ofNat_lt, Int.ofNat_le, BE.val, IE.val, NE.val, ltB_iff, ltB_no, leB_iff, leB_no, Int.toNat_natCast, Nat.zero_add, Nat.add_zero, Nat.mul_one, forced, beq_iff_eq, beq_eq_false_iff_ne, bne_iff_ne, bne_eq_false_iff_eq] at *)
                all_goals first | with_reducible rfl | exact True.intro | omega | exact wrap64_nat (by omega) | rfl | trace_state
          · have hk5 : k ⟨⟩ = 4 := by omega
            refine Br.f (kj_ge4 hk4) ?_
            cbv
            have hend : (rowI [] (dmM [] (shI [] (a ⟨⟩, s ⟨⟩) (c ⟨⟩)).1) (c ⟨⟩) (dmQ [] (shI [] (a ⟨⟩, s ⟨⟩) (c ⟨⟩)).1) (shI [] (a ⟨⟩, s ⟨⟩) (c ⟨⟩)).2 (k ⟨⟩)) = shI [] (a ⟨⟩, s ⟨⟩) (c ⟨⟩ + 1) := by rw [hk5]; rfl
            repeat' first
              | (refine Ob.mk ?_ ?_; rotate_left; cbv)
              | (refine Next.mk (fun _ => c () + 1) ?_ ?_ ?_)
            all_goals try (first | exact congrArg (fun z => z.1.1) hend | exact congrArg (fun z => z.1.2) hend | exact congrArg (fun z => z.2) hend)
            all_goals (try simp only [Unit.unit, Int.ofNat_lt, Int.ofNat_le, BE.val, IE.val, NE.val, ltB_iff, ltB_no, leB_iff, leB_no, Int.toNat_natCast, Nat.zero_add, Nat.add_zero, Nat.mul_one, forced, beq_iff_eq, beq_eq_false_iff_ne, bne_iff_ne, bne_eq_false_iff_eq] at *)
            all_goals first | with_reducible rfl | exact True.intro | omega | exact wrap64_nat (by omega) | rfl | trace_state
      · have hc5 : c ⟨⟩ = 4 := by omega
        refine Br.f (kj_ge4 hc4) ?_
        cbv
        repeat' (refine Ob.mk ?_ ?_; (focus (first | exact rfl | exact ⟨hq1.1, Int.le_trans hq1.2 (by decide)⟩ | exact Int.le_trans hq1.2 (by decide))); cbv)
        have hQ : pkQ [] 12 (shI [] (a ⟨⟩, s ⟨⟩) (c ⟨⟩)).1 = shQ [] (a ⟨⟩, s ⟨⟩) := by rw [hc5]; rfl
        refine Br.mk (fun hy => ?_) (fun hy => ?_)
        · have hy' : (pkV [] 12 (shI [] (a ⟨⟩, s ⟨⟩) 4).1 == 0) = true := by rw [← hc5]; exact hy
          have hv : shL [] (a ⟨⟩, s ⟨⟩) = same4 (shI [] (a ⟨⟩, s ⟨⟩) 4).2 := if_pos hy'
          have hA : ∀ i, (((same4 (shI [] (a ⟨⟩, s ⟨⟩) (c ⟨⟩)).2)).getD i (0, 0)).1 = ((shL [] (a ⟨⟩, s ⟨⟩)).getD i (0, 0)).1 := fun i => by rw [hv, hc5]
          have hB : ∀ i, (((same4 (shI [] (a ⟨⟩, s ⟨⟩) (c ⟨⟩)).2)).getD i (0, 0)).2 = ((shL [] (a ⟨⟩, s ⟨⟩)).getD i (0, 0)).2 := fun i => by rw [hv, hc5]
          cbv
          repeat' (refine Ob.mk ?_ ?_; (focus (first | exact hA _ | exact hB _ | exact congrArg Prod.fst hQ | exact congrArg Prod.snd hQ | exact rfl | (dsimp only [IE.val, NE.val]; rw [hls]; decide) | (dsimp only [IE.val, NE.val]; simp only [List.length_set]; rw [hls]; decide) | trace_state)); cbv)
        · have hy' : (pkV [] 12 (shI [] (a ⟨⟩, s ⟨⟩) 4).1 == 0) = false := by rw [← hc5]; exact hy
          have hv : shL [] (a ⟨⟩, s ⟨⟩) = (shI [] (a ⟨⟩, s ⟨⟩) 4).2 := if_neg (by rw [hy']; decide)
          have hA : ∀ i, (((shI [] (a ⟨⟩, s ⟨⟩) (c ⟨⟩)).2).getD i (0, 0)).1 = ((shL [] (a ⟨⟩, s ⟨⟩)).getD i (0, 0)).1 := fun i => by rw [hv, hc5]
          have hB : ∀ i, (((shI [] (a ⟨⟩, s ⟨⟩) (c ⟨⟩)).2).getD i (0, 0)).2 = ((shL [] (a ⟨⟩, s ⟨⟩)).getD i (0, 0)).2 := fun i => by rw [hv, hc5]
          cbv
          repeat' (refine Ob.mk ?_ ?_; (focus (first | exact hA _ | exact hB _ | exact congrArg Prod.fst hQ | exact congrArg Prod.snd hQ | exact rfl | (dsimp only [IE.val, NE.val]; rw [hls]; decide) | (dsimp only [IE.val, NE.val]; simp only [List.length_set]; rw [hls]; decide) | trace_state)); cbv)
  · cases hs
end
section
theorem fn12 : FnOk Try.prog 12 Try.f12 (bodyOf Try.f12) := ⟨Try.func12, rfl, by rfl⟩
def s12 : Spec := hspec fun args H => match args, H with
  | [.c (.sl 0 (.x o) (.x n))], [some ⟨false, 0, .it .u8 L⟩] => some (.a [.z .f32 (fun _ => ((shL (L ()) (0, 0)).getD 0 (0, 0)).1) (fun _ => ((shL (L ()) (0, 0)).getD 0 (0, 0)).2), .z .f32 (fun _ => ((shL (L ()) (0, 0)).getD 1 (0, 0)).1) (fun _ => ((shL (L ()) (0, 0)).getD 1 (0, 0)).2), .z .f32 (fun _ => ((shL (L ()) (0, 0)).getD 2 (0, 0)).1) (fun _ => ((shL (L ()) (0, 0)).getD 2 (0, 0)).2), .z .f32 (fun _ => ((shL (L ()) (0, 0)).getD 3 (0, 0)).1) (fun _ => ((shL (L ()) (0, 0)).getD 3 (0, 0)).2), .z .f32 (fun _ => ((shL (L ()) (0, 0)).getD 4 (0, 0)).1) (fun _ => ((shL (L ()) (0, 0)).getD 4 (0, 0)).2), .z .f32 (fun _ => ((shL (L ()) (0, 0)).getD 5 (0, 0)).1) (fun _ => ((shL (L ()) (0, 0)).getD 5 (0, 0)).2), .z .f32 (fun _ => ((shL (L ()) (0, 0)).getD 6 (0, 0)).1) (fun _ => ((shL (L ()) (0, 0)).getD 6 (0, 0)).2), .z .f32 (fun _ => ((shL (L ()) (0, 0)).getD 7 (0, 0)).1) (fun _ => ((shL (L ()) (0, 0)).getD 7 (0, 0)).2), .z .f32 (fun _ => ((shL (L ()) (0, 0)).getD 8 (0, 0)).1) (fun _ => ((shL (L ()) (0, 0)).getD 8 (0, 0)).2), .z .f32 (fun _ => ((shL (L ()) (0, 0)).getD 9 (0, 0)).1) (fun _ => ((shL (L ()) (0, 0)).getD 9 (0, 0)).2), .z .f32 (fun _ => ((shL (L ()) (0, 0)).getD 10 (0, 0)).1) (fun _ => ((shL (L ()) (0, 0)).getD 10 (0, 0)).2), .z .f32 (fun _ => ((shL (L ()) (0, 0)).getD 11 (0, 0)).1) (fun _ => ((shL (L ()) (0, 0)).getD 11 (0, 0)).2), .z .f32 (fun _ => ((shL (L ()) (0, 0)).getD 12 (0, 0)).1) (fun _ => ((shL (L ()) (0, 0)).getD 12 (0, 0)).2), .z .f32 (fun _ => ((shL (L ()) (0, 0)).getD 13 (0, 0)).1) (fun _ => ((shL (L ()) (0, 0)).getD 13 (0, 0)).2), .z .f32 (fun _ => ((shL (L ()) (0, 0)).getD 14 (0, 0)).1) (fun _ => ((shL (L ()) (0, 0)).getD 14 (0, 0)).2), .z .f32 (fun _ => ((shL (L ()) (0, 0)).getD 15 (0, 0)).1) (fun _ => ((shL (L ()) (0, 0)).getD 15 (0, 0)).2)], [none], [fun _ => o () = 0 ∧ (L ()).length = n () ∧ n () ≤ 4096 ∧ bytesOk (L ())])
  | [.c .sn], [] => some (.a [.z .f32 (fun _ => ((shL [] (0, 0)).getD 0 (0, 0)).1) (fun _ => ((shL [] (0, 0)).getD 0 (0, 0)).2), .z .f32 (fun _ => ((shL [] (0, 0)).getD 1 (0, 0)).1) (fun _ => ((shL [] (0, 0)).getD 1 (0, 0)).2), .z .f32 (fun _ => ((shL [] (0, 0)).getD 2 (0, 0)).1) (fun _ => ((shL [] (0, 0)).getD 2 (0, 0)).2), .z .f32 (fun _ => ((shL [] (0, 0)).getD 3 (0, 0)).1) (fun _ => ((shL [] (0, 0)).getD 3 (0, 0)).2), .z .f32 (fun _ => ((shL [] (0, 0)).getD 4 (0, 0)).1) (fun _ => ((shL [] (0, 0)).getD 4 (0, 0)).2), .z .f32 (fun _ => ((shL [] (0, 0)).getD 5 (0, 0)).1) (fun _ => ((shL [] (0, 0)).getD 5 (0, 0)).2), .z .f32 (fun _ => ((shL [] (0, 0)).getD 6 (0, 0)).1) (fun _ => ((shL [] (0, 0)).getD 6 (0, 0)).2), .z .f32 (fun _ => ((shL [] (0, 0)).getD 7 (0, 0)).1) (fun _ => ((shL [] (0, 0)).getD 7 (0, 0)).2), .z .f32 (fun _ => ((shL [] (0, 0)).getD 8 (0, 0)).1) (fun _ => ((shL [] (0, 0)).getD 8 (0, 0)).2), .z .f32 (fun _ => ((shL [] (0, 0)).getD 9 (0, 0)).1) (fun _ => ((shL [] (0, 0)).getD 9 (0, 0)).2), .z .f32 (fun _ => ((shL [] (0, 0)).getD 10 (0, 0)).1) (fun _ => ((shL [] (0, 0)).getD 10 (0, 0)).2), .z .f32 (fun _ => ((shL [] (0, 0)).getD 11 (0, 0)).1) (fun _ => ((shL [] (0, 0)).getD 11 (0, 0)).2), .z .f32 (fun _ => ((shL [] (0, 0)).getD 12 (0, 0)).1) (fun _ => ((shL [] (0, 0)).getD 12 (0, 0)).2), .z .f32 (fun _ => ((shL [] (0, 0)).getD 13 (0, 0)).1) (fun _ => ((shL [] (0, 0)).getD 13 (0, 0)).2), .z .f32 (fun _ => ((shL [] (0, 0)).getD 14 (0, 0)).1) (fun _ => ((shL [] (0, 0)).getD 14 (0, 0)).2), .z .f32 (fun _ => ((shL [] (0, 0)).getD 15 (0, 0)).1) (fun _ => ((shL [] (0, 0)).getD 15 (0, 0)).2)], [], [])
  | _, _ => none
def E12 : Env := fun g => envGetL [(36, ⟨false, s36, none⟩), (50, ⟨false, s50, none⟩)] g
theorem E12ok : EnvOk Try.prog E12 := envOk_cons ok36 (envOk_cons ok50 (envOk_nil _))
set_option maxRecDepth 100000 in
set_option maxHeartbeats 1000000 in
theorem ok12 : Ok Try.prog 12 (s12) := ok_of_wpaH (E := E12) mixed tts E12ok fn12 fun args H v H' o hs ho => by
  split at hs
  · rename_i o n L
    cases hs
    have hcb := ho.one
    refine ⟨_, HLe.refl _, ?_⟩
    cbv
    repeat' (refine Ob.mk ?_ ?_; (focus (first | exact rfl | exact hcb | exact ⟨by decide, by decide⟩ | decide)); cbv)
  · cases hs
    refine ⟨_, HLe.refl _, ?_⟩
    cbv
    repeat' (refine Ob.mk ?_ ?_; (focus (first | exact rfl | exact hcb | exact ⟨by decide, by decide⟩ | decide)); cbv)
  · cases hs
end
section
theorem fn3 : FnOk Try.prog 3 Try.f3 (bodyOf Try.f3) := ⟨Try.func3, rfl, by rfl⟩
theorem pk_nat {L : List Int} (h : bytesOk L) {k : Nat} (hk : 1 ≤ k) (q : Int × Int) : ∃ r : Nat, r < k ∧ pkV L (k : Int) q = (r : Int) := by
  have := pkV_bd h (k := (k : Int)) (by omega) q
  exact ⟨(pkV L (k : Int) q).toNat, by omega, by omega⟩
theorem eqW_self (a : Nat) : eqW a a = true := by
  unfold eqW
  split
  · rename_i h
    simpa using h
  · simp
theorem sameM_self (m : M) : sameM m m = true := by unfold sameM; rw [eqW_self, eqW_self]; rfl
def stepOk (k r : Nat) : Bool := stFine (q16 r) (st16 k) && againOk (st16 k) (q16 r) && stFine (stepX (q16 r) (st16 k)) (st16 k)
theorem stepOk_of {k r : Nat} (h : stepOk k r = true) : stFine (q16 r) (st16 k) = true ∧ okX (stepX (q16 r) (st16 k)) = true ∧ fcmp .eql .f32 (stepX (stepX (q16 r) (st16 k)) (st16 k)) (stepX (q16 r) (st16 k)) = true ∧ stFine (stepX (q16 r) (st16 k)) (st16 k) = true := by
  unfold stepOk againOk at h
  simp only [Bool.and_eq_true] at h
  exact ⟨h.1.1, h.1.2.1, h.1.2.2, h.2⟩
theorem d_stin : allR 32 (fun k => isIn (st16 k) 981467136 1166016512) = true := by decide +kernel
def E3 : Env := fun g => envGetL [(5, ⟨true, s5, none⟩), (6, ⟨true, s6, none⟩), (7, ⟨true, s7, none⟩), (8, ⟨true, s8, none⟩), (9, ⟨true, s9, none⟩), (10, ⟨true, s10, none⟩), (11, ⟨true, s11, none⟩), (12, ⟨true, s12, none⟩), (13, ⟨true, s13, none⟩), (14, ⟨true, s14, none⟩), (15, ⟨true, s15, none⟩), (16, ⟨true, s16, none⟩), (17, ⟨true, s17, none⟩)] g
theorem E3ok : EnvOk Try.prog E3 := envOk_cons ok5 (envOk_cons ok6 (envOk_cons ok7 (envOk_cons ok8 (envOk_cons ok9 (envOk_cons ok10 (envOk_cons ok11 (envOk_cons ok12 (envOk_cons ok13 (envOk_cons ok14 (envOk_cons ok15 (envOk_cons ok16 (envOk_cons ok17 (envOk_nil _)))))))))))))
end
end Go.Proofs.Ytanndlifpojenaa.Sh
