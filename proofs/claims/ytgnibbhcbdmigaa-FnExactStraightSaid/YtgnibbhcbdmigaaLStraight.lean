/- The walk of the law of Straight. Written by a program (modlaws.py). -/
import Derived.Test.YtgnibbhcbdmigaaSzM
import Derived.Test.YtgnibbhcbdmigaaTo
import Derived.Test.YtgnibbhcbdmigaaEq
import Derived.Test.YtgnibbhcbdmigaaInv
import Derived.Test.YtgnibbhcbdmigaaStr2
namespace Go.Proofs.Ytgnibbhcbdmigaa.Dat
open Go Go.RowKit Go.Proofs.Ytgnibbhcbdmigaa.Mem Go.Proofs.YtgnibbhcbdmigaaW.PrintLast
set_option linter.unusedVariables false
set_option linter.unusedSimpArgs false
set_option maxHeartbeats 2000000 in
set_option maxRecDepth 100000 in
theorem lawStraight (t : List ByteArray) (l : List DFunc) (f : Int) (w : World) {A B : Option Addr} {c d : Nat} (ht0 : Knd.str.Row w A t.length t) (_ : t.length ≤ c) (hr0 : kFunc.Row w B l.length l) (_ : l.length ≤ d) (hT : t.length ≤ maxLen ∧ ∀ y ∈ t, y.size ≤ maxLen) (hL : l.length ≤ maxLen ∧ ∀ y ∈ l, VFunc y) (_ : (Lit.int .i64 f).wf = true) : Calls Try.prog 9 #[.agg #[.slice A t.length c, .slice B l.length d], .int .i64 f] w fun e w' => e = .returned (.bool true) ∧ Below w.heap.size w w' := by
  by_cases hs : (szMod t l : Int) ≤ 1048576
  rotate_left
  · skip
    go_enter Try.func9, Try.ntmps9
    go_wp2_with fail
    refine (szM_no _ _ _ _ t l _ ?_ ?_ hT.1 hL.1 hT.2 (fun x h => (hL.2 x h).2.2.1) (by omega)).mono ?_
    · exact ht0.below (by repeat (first | exact Below.refl _ _ | assumption | (refine bl_set ?_ (by dsimp only; omega) _) | refine bl_alloc ?_ _ | refine bl_drewN ?_ _ | refine bl_drew ?_ | refine bl_step ?_ (by assumption)))
    · exact hr0.below (by repeat (first | exact Below.refl _ _ | assumption | (refine bl_set ?_ (by dsimp only; omega) _) | refine bl_alloc ?_ _ | refine bl_drewN ?_ _ | refine bl_drew ?_ | refine bl_step ?_ (by assumption)))
    rintro e w1 ⟨rfl, hb1⟩
    have hI1 := ((Inv.start w).made (.cells #[.slice A t.length c, .slice B l.length d] 25 (0, 0)) (w.heap.size) (by simp)).step hb1
    clear hb1
    have x1_0 := hI1.cell 0 rfl
    have y1_0 := hI1.lt 0 rfl
    have B1 := hI1.bel
    go_wp2
    go_ret
    exact ⟨rfl, hI1.bel⟩
  obtain ⟨htm, hm, hv⟩ := szMod_small hs
  have hv2 : ∀ x ∈ l, x.code.length ≤ 1048576 ∧ -9223372036854775808 ≤ x.locals ∧ x.locals ≤ 9223372036854775807 := fun x h => ⟨hv x h, wf_lo (hL.2 x h).2.1, wf_hi (hL.2 x h).2.1⟩
  have hg : 0 ≤ 1048576 - (szMod t l : Int) := by omega
  go_enter Try.func9, Try.ntmps9
  go_wp2_with fail
  refine (szM_ok _ _ _ _ t l _ ?_ ?_ hT.1 hL.1 hT.2 (fun x h => (hL.2 x h).2.2.1) (by omega)).mono ?_
  · exact ht0.below (by repeat (first | exact Below.refl _ _ | assumption | (refine bl_set ?_ (by dsimp only; omega) _) | refine bl_alloc ?_ _ | refine bl_drewN ?_ _ | refine bl_drew ?_ | refine bl_step ?_ (by assumption)))
  · exact hr0.below (by repeat (first | exact Below.refl _ _ | assumption | (refine bl_set ?_ (by dsimp only; omega) _) | refine bl_alloc ?_ _ | refine bl_drewN ?_ _ | refine bl_drew ?_ | refine bl_step ?_ (by assumption)))
  rintro e w1 ⟨rfl, hb1⟩
  have hI1 := ((Inv.start w).made (.cells #[.slice A t.length c, .slice B l.length d] 25 (0, 0)) (w.heap.size) (by simp)).step hb1
  clear hb1
  have x1_0 := hI1.cell 0 rfl
  have y1_0 := hI1.lt 0 rfl
  have B1 := hI1.bel
  go_wp2_with fail
  refine (toModule _ _ _ _ t l _ ?_ ?_ htm hm hv).mono ?_
  · exact ht0.below (by repeat (first | exact Below.refl _ _ | assumption | (refine bl_set ?_ (by dsimp only; omega) _) | refine bl_alloc ?_ _ | refine bl_drewN ?_ _ | refine bl_drew ?_ | refine bl_step ?_ (by assumption)))
  · exact hr0.below (by repeat (first | exact Below.refl _ _ | assumption | (refine bl_set ?_ (by dsimp only; omega) _) | refine bl_alloc ?_ _ | refine bl_drewN ?_ _ | refine bl_drew ?_ | refine bl_step ?_ (by assumption)))
  rintro e w2 ⟨v, u, F1, G1, rfl, hot, hor, hnd, hF, hb2⟩
  obtain ⟨A11, c11, rfl, _, ht1⟩ := hot.row
  obtain ⟨B11, d11, rfl, _, hr1⟩ := hor.row
  clear hot hor hnd hF
  have hI2 := hI1.step hb2
  clear hb2 x1_0 y1_0 B1 hI1
  replace hI2 := hI2.add (R' := fun W' => Knd.str.Row W' A11 t.length t) (Stab.row _ _ _ _) ht1
  replace hI2 := hI2.add (R' := fun W' => kFunc.Row W' B11 l.length l) (Stab.row _ _ _ _) hr1
  have x2_0 := hI2.cell 0 rfl
  have y2_0 := hI2.lt 0 rfl
  have B2 := hI2.bel
  go_wp2_with fail
  refine (str03 _ _ _ _ t l f _ ⟨?_, ?_, htm, hm, hT.2, hv2⟩).mono ?_
  · exact (hI2.rows.2.1).below (by repeat (first | exact Below.refl _ _ | assumption | (refine bl_set ?_ (by dsimp only; omega) _) | refine bl_alloc ?_ _ | refine bl_drewN ?_ _ | refine bl_drew ?_ | refine bl_step ?_ (by assumption)))
  · exact (hI2.rows.1).below (by repeat (first | exact Below.refl _ _ | assumption | (refine bl_set ?_ (by dsimp only; omega) _) | refine bl_alloc ?_ _ | refine bl_drewN ?_ _ | refine bl_drew ?_ | refine bl_step ?_ (by assumption)))
  rintro e w3 ⟨rfl, hb3⟩
  have hI3 := hI2.step hb3
  clear hb3 x2_0 y2_0 B2 hI2
  have x3_0 := hI3.cell 0 rfl
  have y3_0 := hI3.lt 0 rfl
  have B3 := hI3.bel
  go_wp2_with fail
  refine (toModule _ _ _ _ t l _ ?_ ?_ htm hm hv).mono ?_
  · exact ht0.below (by repeat (first | exact Below.refl _ _ | assumption | (refine bl_set ?_ (by dsimp only; omega) _) | refine bl_alloc ?_ _ | refine bl_drewN ?_ _ | refine bl_drew ?_ | refine bl_step ?_ (by assumption)))
  · exact hr0.below (by repeat (first | exact Below.refl _ _ | assumption | (refine bl_set ?_ (by dsimp only; omega) _) | refine bl_alloc ?_ _ | refine bl_drewN ?_ _ | refine bl_drew ?_ | refine bl_step ?_ (by assumption)))
  rintro e w4 ⟨v, u, F2, G2, rfl, hot, hor, hnd, hF, hb4⟩
  obtain ⟨A12, c12, rfl, _, ht2⟩ := hot.row
  obtain ⟨B12, d12, rfl, _, hr2⟩ := hor.row
  clear hot hor hnd hF
  have hI4 := hI3.step hb4
  clear hb4 x3_0 y3_0 B3 hI3
  replace hI4 := hI4.add (R' := fun W' => Knd.str.Row W' A12 t.length t) (Stab.row _ _ _ _) ht2
  replace hI4 := hI4.add (R' := fun W' => kFunc.Row W' B12 l.length l) (Stab.row _ _ _ _) hr2
  have x4_0 := hI4.cell 0 rfl
  have y4_0 := hI4.lt 0 rfl
  have B4 := hI4.bel
  go_wp2_with fail
  refine (strI _ _ _ _ t l f _ ⟨?_, ?_, htm, hm, hT.2, hv2⟩).mono ?_
  · exact (hI4.rows.2.1).below (by repeat (first | exact Below.refl _ _ | assumption | (refine bl_set ?_ (by dsimp only; omega) _) | refine bl_alloc ?_ _ | refine bl_drewN ?_ _ | refine bl_drew ?_ | refine bl_step ?_ (by assumption)))
  · exact (hI4.rows.1).below (by repeat (first | exact Below.refl _ _ | assumption | (refine bl_set ?_ (by dsimp only; omega) _) | refine bl_alloc ?_ _ | refine bl_drewN ?_ _ | refine bl_drew ?_ | refine bl_step ?_ (by assumption)))
  rintro e w5 ⟨rfl, hb5⟩
  have hI5 := (hI4.made (.cells #[.slice A12 t.length c12, .slice B12 l.length d12] 32 (0, 0)) (w4.heap.size) (by simp)).step hb5
  clear hb5 x4_0 y4_0 B4 hI4
  have x5_0 := hI5.cell 0 rfl
  have y5_0 := hI5.lt 0 rfl
  have x5_1 := hI5.cell 1 rfl
  have y5_1 := hI5.lt 1 rfl
  have B5 := hI5.bel
  go_wp2_with fail
  have hI6 := hI5
  clear x5_0 y5_0 x5_1 y5_1 B5 hI5
  refine start_ (n := 5) (S := Inv w [(w4.heap.size, .cells #[.slice A12 t.length c12, .slice B12 l.length d12] 32 (0, 0)), (w.heap.size, .cells #[.slice A t.length c, .slice B l.length d] 25 (0, 0))] (fun W' => kFunc.Row W' B12 l.length l ∧ Knd.str.Row W' A12 t.length t ∧ kFunc.Row W' B11 l.length l ∧ Knd.str.Row W' A11 t.length t ∧ True)) (ds := []) #[false, false, false, false, false] (by kernel_rfl) rfl rfl hI6.drew (fun hI => ?_)
  clear hI6
  generalize World.drew _ = w6 at hI ⊢
  refine take_ (i := 0) (N := (some 26)) (v := ?_) (a' := ?_) #[true, false, false, false, false] rfl rfl (by kernel_rfl) (fun _ _ _ h => h) (Or.inl ⟨by rfl, ?_⟩) hI ?_ ?_
  rotate_left
  · intro w' h'
    have x := h'.cell 0 rfl
    go_simp
    with_reducible rfl
  rotate_left
  · simp only [Act.put, List.setIfInBounds_toArray, List.set_cons_zero, List.set_cons_succ]
    rfl
  refine take_ (i := 1) (N := (some 27)) (v := ?_) (a' := ?_) #[true, true, false, false, false] rfl rfl (by kernel_rfl) (fun _ _ _ h => h) (Or.inl ⟨by rfl, ?_⟩) hI ?_ ?_
  rotate_left
  · intro w' h'
    have x := h'.cell 1 rfl
    go_simp
    with_reducible rfl
  rotate_left
  · simp only [Act.put, List.setIfInBounds_toArray, List.set_cons_zero, List.set_cons_succ]
    rfl
  refine one_ (i := 2) (N := (some 28)) #[true, true, true, false, false] rfl rfl (by kernel_rfl) (by decide) (fun K hK => ?_)
  refine goes_ Try.func12 (by kernel_rfl) rfl #[.agg #[.slice A t.length c, .slice B l.length d]] (by rfl) rfl rfl (by (try simp only [List.map_toArray, List.map_cons, List.map_nil]); first | done | rfl) ?_
  refine (toModule _ _ _ _ t l _ ?_ ?_ htm hm hv).mono ?_
  · exact ht0.below hI.bel
  · exact hr0.below hI.bel
  rintro e w7 ⟨v, u, F3, G3, rfl, hot, hor, hnd, hF, hb⟩
  obtain ⟨A13, c13, rfl, _, ht3⟩ := hot.row
  obtain ⟨B13, d13, rfl, _, hr3⟩ := hor.row
  clear hot hor hnd hF
  refine ⟨_, rfl, ?_⟩
  refine hK.out _ _ (hI.step hb) (fun hI' => ?_)
  clear hK K hb hI
  have hI := hI'
  clear hI'
  refine norm_ (a' := ?_) ?_ ?_
  rotate_left
  · show Act.put _ (some 28) _ = _
    simp only [Act.put, List.setIfInBounds_toArray, List.set_cons_zero, List.set_cons_succ]
    rfl
  refine one_ (i := 3) (N := (some 29)) #[true, true, true, true, false] rfl rfl (by kernel_rfl) (by decide) (fun K hK => ?_)
  refine goes_ Try.func15 (by kernel_rfl) rfl #[.agg #[.slice A12 t.length c12, .slice B12 l.length d12], .agg #[.slice A13 t.length c13, .slice B13 l.length d13]] (by rfl) rfl rfl (by (try simp only [List.map_toArray, List.map_cons, List.map_nil]); first | done | rfl) ?_
  refine (eqModule _ _ _ _ _ _ _ _ t l _ ?_ ?_ ?_ ?_).mono ?_
  · exact hI.rows.2.1
  · exact hI.rows.1
  · exact ht3
  · exact hr3
  rintro e w8 ⟨rfl, hb⟩
  refine ⟨_, rfl, ?_⟩
  replace ht3 := ht3.below hb
  replace hr3 := hr3.below hb
  refine hK.out _ _ (hI.step hb) (fun hI' => ?_)
  clear hK K hb hI
  have hI := hI'
  clear hI'
  refine norm_ (a' := ?_) ?_ ?_
  rotate_left
  · show Act.put _ (some 29) _ = _
    simp only [Act.put, List.setIfInBounds_toArray, List.set_cons_zero, List.set_cons_succ]
    rfl
  refine pure_ (i := 4) (N := (some 30)) (v := ?_) (a' := ?_) #[true, true, true, true, true] rfl rfl (by kernel_rfl) (fun _ _ _ h => h) (Or.inl ⟨by rfl, ?_⟩) ?_ ?_
  rotate_left
  · intro w'
    go_simp
    with_reducible rfl
  rotate_left
  · simp only [Act.put, List.setIfInBounds_toArray, List.set_cons_zero, List.set_cons_succ]
    rfl
  refine done_ (by kernel_rfl) ?_
  have hI7 := hI
  clear hI
  replace hI7 := hI7.add (R' := fun W' => Knd.str.Row W' A13 t.length t) (Stab.row _ _ _ _) ht3
  replace hI7 := hI7.add (R' := fun W' => kFunc.Row W' B13 l.length l) (Stab.row _ _ _ _) hr3
  clear ht3 hr3
  have x7_0 := hI7.cell 0 rfl
  have y7_0 := hI7.lt 0 rfl
  have x7_1 := hI7.cell 1 rfl
  have y7_1 := hI7.lt 1 rfl
  have B7 := hI7.bel
  go_wp2
  go_ret
  exact ⟨rfl, hI7.bel⟩
end Go.Proofs.Ytgnibbhcbdmigaa.Dat
