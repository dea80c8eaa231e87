/- The walk of the law of UsesOf. Written by a program (modlaws.py). -/
import Derived.Test.YtkllanigogkbiaaSzM
import Derived.Test.YtkllanigogkbiaaTo
import Derived.Test.YtkllanigogkbiaaEq
import Derived.Test.YtkllanigogkbiaaInv
import Derived.Test.YtkllanigogkbiaaUses
namespace Go.Proofs.Ytkllanigogkbiaa.Dat
open Go Go.RowKit Go.Proofs.Ytkllanigogkbiaa.Mem Go.Proofs.YtkllanigogkbiaaW.PrintLast
set_option linter.unusedVariables false
set_option linter.unusedSimpArgs false
set_option maxHeartbeats 2000000 in
set_option maxRecDepth 100000 in
theorem lawUsesOf (t : List ByteArray) (l : List DFunc) (op a : Int) (w : World) {A B : Option Addr} {c d : Nat} (ht0 : Knd.str.Row w A t.length t) (_ : t.length ≤ c) (hr0 : kFunc.Row w B l.length l) (_ : l.length ≤ d) (hT : t.length ≤ maxLen ∧ ∀ y ∈ t, y.size ≤ maxLen) (hL : l.length ≤ maxLen ∧ ∀ y ∈ l, VFunc y) (_ : (Lit.int .i64 op).wf = true) (_ : (Lit.int .i64 a).wf = true) : Calls Try.prog 14 #[.agg #[.slice A t.length c, .slice B l.length d], .agg #[.int .i64 op, .int .i64 a]] w fun e w' => e = .returned (.bool true) ∧ Below w.heap.size w w' := by
  by_cases hs : (szMod t l : Int) ≤ 1048576
  rotate_left
  · skip
    go_enter Try.func14, Try.ntmps14
    go_wp2_with fail
    refine (szM_no _ _ _ _ t l _ ?_ ?_ hT.1 hL.1 hT.2 (fun x h => (hL.2 x h).2.2.1) (by omega)).mono ?_
    · exact ht0.below (by repeat (first | exact Below.refl _ _ | assumption | (refine bl_set ?_ (by dsimp only; omega) _) | refine bl_alloc ?_ _ | refine bl_drewN ?_ _ | refine bl_drew ?_ | refine bl_step ?_ (by assumption)))
    · exact hr0.below (by repeat (first | exact Below.refl _ _ | assumption | (refine bl_set ?_ (by dsimp only; omega) _) | refine bl_alloc ?_ _ | refine bl_drewN ?_ _ | refine bl_drew ?_ | refine bl_step ?_ (by assumption)))
    rintro e w1 ⟨rfl, hb1⟩
    have hI1 := (((Inv.start w).made (.cells #[.slice A t.length c, .slice B l.length d] 75 (0, 0)) (w.heap.size) (by simp)).made (.cells #[.int .i64 op, .int .i64 a] 77 (0, 0)) (w.heap.size + 1) (by simp)).step hb1
    clear hb1
    have x1_0 := hI1.cell 0 rfl
    have y1_0 := hI1.lt 0 rfl
    have x1_1 := hI1.cell 1 rfl
    have y1_1 := hI1.lt 1 rfl
    have B1 := hI1.bel
    go_wp2
    go_ret
    exact ⟨rfl, hI1.bel⟩
  obtain ⟨htm, hm, hv⟩ := szMod_small hs
  have hv2 : ∀ x ∈ l, x.code.length ≤ 1048576 ∧ -9223372036854775808 ≤ x.locals ∧ x.locals ≤ 9223372036854775807 := fun x h => ⟨hv x h, wf_lo (hL.2 x h).2.1, wf_hi (hL.2 x h).2.1⟩
  have hg : 0 ≤ 1048576 - (szMod t l : Int) := by omega
  go_enter Try.func14, Try.ntmps14
  go_wp2_with fail
  refine (szM_ok _ _ _ _ t l _ ?_ ?_ hT.1 hL.1 hT.2 (fun x h => (hL.2 x h).2.2.1) (by omega)).mono ?_
  · exact ht0.below (by repeat (first | exact Below.refl _ _ | assumption | (refine bl_set ?_ (by dsimp only; omega) _) | refine bl_alloc ?_ _ | refine bl_drewN ?_ _ | refine bl_drew ?_ | refine bl_step ?_ (by assumption)))
  · exact hr0.below (by repeat (first | exact Below.refl _ _ | assumption | (refine bl_set ?_ (by dsimp only; omega) _) | refine bl_alloc ?_ _ | refine bl_drewN ?_ _ | refine bl_drew ?_ | refine bl_step ?_ (by assumption)))
  rintro e w1 ⟨rfl, hb1⟩
  have hI1 := (((Inv.start w).made (.cells #[.slice A t.length c, .slice B l.length d] 75 (0, 0)) (w.heap.size) (by simp)).made (.cells #[.int .i64 op, .int .i64 a] 77 (0, 0)) (w.heap.size + 1) (by simp)).step hb1
  clear hb1
  have x1_0 := hI1.cell 0 rfl
  have y1_0 := hI1.lt 0 rfl
  have x1_1 := hI1.cell 1 rfl
  have y1_1 := hI1.lt 1 rfl
  have B1 := hI1.bel
  go_wp2_with fail
  have hI2 := hI1
  clear x1_0 y1_0 x1_1 y1_1 B1 hI1
  refine start_ (n := 10) (S := Inv w [(w.heap.size + 1, .cells #[.int .i64 op, .int .i64 a] 77 (0, 0)), (w.heap.size, .cells #[.slice A t.length c, .slice B l.length d] 75 (0, 0))] (fun W' => True)) (ds := []) #[false, false, false, false, false, false, false, false, false, false] (by kernel_rfl) rfl rfl hI2.drew (fun hI => ?_)
  clear hI2
  generalize World.drew _ = w2 at hI ⊢
  refine take_ (i := 0) (N := (some 17)) (v := ?_) (a' := ?_) #[true, false, false, false, false, false, false, false, false, false] rfl rfl (by kernel_rfl) (fun _ _ _ h => h) (Or.inl ⟨by rfl, ?_⟩) hI ?_ ?_
  rotate_left
  · intro w' h'
    have x := h'.cell 1 rfl
    go_simp
    with_reducible rfl
  rotate_left
  · simp only [Act.put, List.setIfInBounds_toArray, List.set_cons_zero, List.set_cons_succ]
    rfl
  refine take_ (i := 2) (N := (some 19)) (v := ?_) (a' := ?_) #[true, false, true, false, false, false, false, false, false, false] rfl rfl (by kernel_rfl) (fun _ _ _ h => h) (Or.inl ⟨by rfl, ?_⟩) hI ?_ ?_
  rotate_left
  · intro w' h'
    have x := h'.cell 0 rfl
    go_simp
    with_reducible rfl
  rotate_left
  · simp only [Act.put, List.setIfInBounds_toArray, List.set_cons_zero, List.set_cons_succ]
    rfl
  refine one_ (i := 1) (N := (some 18)) #[true, true, true, false, false, false, false, false, false, false] rfl rfl (by kernel_rfl) (by decide) (fun K hK => ?_)
  refine goes_ Try.func51 (by kernel_rfl) rfl #[.agg #[.slice A t.length c, .slice B l.length d]] (by rfl) rfl rfl (by (try simp only [List.map_toArray, List.map_cons, List.map_nil]); first | done | rfl) ?_
  refine (toModule _ _ _ _ t l _ ?_ ?_ htm hm hv).mono ?_
  · exact ht0.below hI.bel
  · exact hr0.below hI.bel
  rintro e w3 ⟨v, u, F1, G1, rfl, hot, hor, hnd, hF, hb⟩
  obtain ⟨A11, c11, rfl, _, ht1⟩ := hot.row
  obtain ⟨B11, d11, rfl, _, hr1⟩ := hor.row
  clear hot hor hnd hF
  refine ⟨_, rfl, ?_⟩
  refine hK.out _ _ (hI.step hb) (fun hI' => ?_)
  clear hK K hb hI
  have hI := hI'
  clear hI'
  refine norm_ (a' := ?_) ?_ ?_
  rotate_left
  · show Act.put _ (some 18) _ = _
    simp only [Act.put, List.setIfInBounds_toArray, List.set_cons_zero, List.set_cons_succ]
    rfl
  refine one_ (i := 3) (N := (some 20)) #[true, true, true, true, false, false, false, false, false, false] rfl rfl (by kernel_rfl) (by decide) (fun K hK => ?_)
  refine goes_ Try.func52 (by kernel_rfl) rfl #[.agg #[.int .i64 op, .int .i64 a]] (by rfl) rfl rfl (by (try simp only [List.map_toArray, List.map_cons, List.map_nil]); first | done | rfl) ?_
  refine (toIns _ _ _).mono ?_
  rintro e w4 ⟨rfl, hb⟩
  refine ⟨_, rfl, ?_⟩
  replace ht1 := ht1.below hb
  replace hr1 := hr1.below hb
  refine hK.out _ _ (hI.step hb) (fun hI' => ?_)
  clear hK K hb hI
  have hI := hI'
  clear hI'
  refine norm_ (a' := ?_) ?_ ?_
  rotate_left
  · show Act.put _ (some 20) _ = _
    simp only [Act.put, List.setIfInBounds_toArray, List.set_cons_zero, List.set_cons_succ]
    rfl
  refine one_ (i := 4) (N := (some 21)) #[true, true, true, true, true, false, false, false, false, false] rfl rfl (by kernel_rfl) (by decide) (fun K hK => ?_)
  refine goes_ Try.func50 (by kernel_rfl) rfl #[.agg #[.slice A11 t.length c11, .slice B11 l.length d11], .agg #[.int .i64 op, .int .i64 a]] (by rfl) rfl rfl (by (try simp only [List.map_toArray, List.map_cons, List.map_nil]); first | done | rfl) ?_
  refine (uses03 _ _ _ _ t l _ _ _ ?_ hm).mono ?_
  · exact hr1
  rintro e w5 ⟨rfl, hb⟩
  refine ⟨_, rfl, ?_⟩
  replace ht1 := ht1.below hb
  replace hr1 := hr1.below hb
  refine hK.out _ _ (hI.step hb) (fun hI' => ?_)
  clear hK K hb hI
  have hI := hI'
  clear hI'
  refine norm_ (a' := ?_) ?_ ?_
  rotate_left
  · show Act.put _ (some 21) _ = _
    simp only [Act.put, List.setIfInBounds_toArray, List.set_cons_zero, List.set_cons_succ]
    rfl
  refine pure_ (i := 5) (N := (some 16)) (v := ?_) (a' := ?_) #[true, true, true, true, true, true, false, false, false, false] rfl rfl (by kernel_rfl) (fun _ _ _ h => h) (Or.inl ⟨by rfl, ?_⟩) ?_ ?_
  rotate_left
  · intro w'
    go_simp
    with_reducible rfl
  rotate_left
  · simp only [Act.put, List.setIfInBounds_toArray, List.set_cons_zero, List.set_cons_succ]
    rfl
  refine pure_ (i := 6) (N := (some 22)) (v := ?_) (a' := ?_) #[true, true, true, true, true, true, true, false, false, false] rfl rfl (by kernel_rfl) (fun _ _ _ h => h) (Or.inl ⟨by rfl, ?_⟩) ?_ ?_
  rotate_left
  · intro w'
    go_simp
    with_reducible rfl
  rotate_left
  · simp only [Act.put, List.setIfInBounds_toArray, List.set_cons_zero, List.set_cons_succ]
    rfl
  refine pure_ (i := 7) (N := (some 23)) (v := ?_) (a' := ?_) #[true, true, true, true, true, true, true, true, false, false] rfl rfl (by kernel_rfl) (fun _ _ _ h => h) (Or.inl ⟨by rfl, ?_⟩) ?_ ?_
  rotate_left
  · intro w'
    go_simp
    with_reducible rfl
  rotate_left
  · simp only [Act.put, List.setIfInBounds_toArray, List.set_cons_zero, List.set_cons_succ]
    rfl
  refine pure_ (i := 8) (N := (some 6)) (v := ?_) (a' := ?_) #[true, true, true, true, true, true, true, true, true, false] rfl rfl (by kernel_rfl) (fun _ _ _ h => h) (Or.inl ⟨by rfl, ?_⟩) ?_ ?_
  rotate_left
  · intro w'
    go_simp
    with_reducible rfl
  rotate_left
  · simp only [Act.put, List.setIfInBounds_toArray, List.set_cons_zero, List.set_cons_succ]
    rfl
  refine pure_ (i := 9) (N := (some 7)) (v := ?_) (a' := ?_) #[true, true, true, true, true, true, true, true, true, true] rfl rfl (by kernel_rfl) (fun _ _ _ h => h) (Or.inl ⟨by rfl, ?_⟩) ?_ ?_
  rotate_left
  · intro w'
    go_simp
    with_reducible rfl
  rotate_left
  · simp only [Act.put, List.setIfInBounds_toArray, List.set_cons_zero, List.set_cons_succ]
    rfl
  refine done_ (by kernel_rfl) ?_
  have hI3 := hI
  clear hI
  replace hI3 := hI3.add (R' := fun W' => Knd.str.Row W' A11 t.length t) (Stab.row _ _ _ _) ht1
  replace hI3 := hI3.add (R' := fun W' => kFunc.Row W' B11 l.length l) (Stab.row _ _ _ _) hr1
  clear ht1 hr1
  have x3_0 := hI3.cell 0 rfl
  have y3_0 := hI3.lt 0 rfl
  have x3_1 := hI3.cell 1 rfl
  have y3_1 := hI3.lt 1 rfl
  have B3 := hI3.bel
  go_wp2_with fail
  refine (toModule _ _ _ _ t l _ ?_ ?_ htm hm hv).mono ?_
  · exact ht0.below (by repeat (first | exact Below.refl _ _ | assumption | (refine bl_set ?_ (by dsimp only; omega) _) | refine bl_alloc ?_ _ | refine bl_drewN ?_ _ | refine bl_drew ?_ | refine bl_step ?_ (by assumption)))
  · exact hr0.below (by repeat (first | exact Below.refl _ _ | assumption | (refine bl_set ?_ (by dsimp only; omega) _) | refine bl_alloc ?_ _ | refine bl_drewN ?_ _ | refine bl_drew ?_ | refine bl_step ?_ (by assumption)))
  rintro e w6 ⟨v, u, F2, G2, rfl, hot, hor, hnd, hF, hb6⟩
  obtain ⟨A12, c12, rfl, _, ht2⟩ := hot.row
  obtain ⟨B12, d12, rfl, _, hr2⟩ := hor.row
  clear hot hor hnd hF
  have hI4 := hI3.step hb6
  clear hb6 x3_0 y3_0 x3_1 y3_1 B3 hI3
  replace hI4 := hI4.add (R' := fun W' => Knd.str.Row W' A12 t.length t) (Stab.row _ _ _ _) ht2
  replace hI4 := hI4.add (R' := fun W' => kFunc.Row W' B12 l.length l) (Stab.row _ _ _ _) hr2
  have x4_0 := hI4.cell 0 rfl
  have y4_0 := hI4.lt 0 rfl
  have x4_1 := hI4.cell 1 rfl
  have y4_1 := hI4.lt 1 rfl
  have B4 := hI4.bel
  go_wp2_with fail
  have hI5 := (hI4.made (.cells #[.slice A12 t.length c12, .slice B12 l.length d12] 83 (0, 0)) (w6.heap.size) (by simp))
  clear x4_0 y4_0 x4_1 y4_1 B4 hI4
  refine start_ (n := 9) (S := Inv w [(w6.heap.size, .cells #[.slice A12 t.length c12, .slice B12 l.length d12] 83 (0, 0)), (w.heap.size + 1, .cells #[.int .i64 op, .int .i64 a] 77 (0, 0)), (w.heap.size, .cells #[.slice A t.length c, .slice B l.length d] 75 (0, 0))] (fun W' => kFunc.Row W' B12 l.length l ∧ Knd.str.Row W' A12 t.length t ∧ kFunc.Row W' B11 l.length l ∧ Knd.str.Row W' A11 t.length t ∧ True)) (ds := []) #[false, false, false, false, false, false, false, false, false] (by kernel_rfl) rfl rfl hI5.drew (fun hI => ?_)
  clear hI5
  generalize World.drew _ = w7 at hI ⊢
  refine take_ (i := 0) (N := (some 27)) (v := ?_) (a' := ?_) #[true, false, false, false, false, false, false, false, false] rfl rfl (by kernel_rfl) (fun _ _ _ h => h) (Or.inl ⟨by rfl, ?_⟩) hI ?_ ?_
  rotate_left
  · intro w' h'
    have x := h'.cell 0 rfl
    go_simp
    with_reducible rfl
  rotate_left
  · simp only [Act.put, List.setIfInBounds_toArray, List.set_cons_zero, List.set_cons_succ]
    rfl
  refine take_ (i := 1) (N := (some 28)) (v := ?_) (a' := ?_) #[true, true, false, false, false, false, false, false, false] rfl rfl (by kernel_rfl) (fun _ _ _ h => h) (Or.inl ⟨by rfl, ?_⟩) hI ?_ ?_
  rotate_left
  · intro w' h'
    have x := h'.cell 1 rfl
    go_simp
    with_reducible rfl
  rotate_left
  · simp only [Act.put, List.setIfInBounds_toArray, List.set_cons_zero, List.set_cons_succ]
    rfl
  refine one_ (i := 2) (N := (some 29)) #[true, true, true, false, false, false, false, false, false] rfl rfl (by kernel_rfl) (by decide) (fun K hK => ?_)
  refine goes_ Try.func52 (by kernel_rfl) rfl #[.agg #[.int .i64 op, .int .i64 a]] (by rfl) rfl rfl (by (try simp only [List.map_toArray, List.map_cons, List.map_nil]); first | done | rfl) ?_
  refine (toIns _ _ _).mono ?_
  rintro e w8 ⟨rfl, hb⟩
  refine ⟨_, rfl, ?_⟩
  refine hK.out _ _ (hI.step hb) (fun hI' => ?_)
  clear hK K hb hI
  have hI := hI'
  clear hI'
  refine norm_ (a' := ?_) ?_ ?_
  rotate_left
  · show Act.put _ (some 29) _ = _
    simp only [Act.put, List.setIfInBounds_toArray, List.set_cons_zero, List.set_cons_succ]
    rfl
  refine one_ (i := 3) (N := (some 30)) #[true, true, true, true, false, false, false, false, false] rfl rfl (by kernel_rfl) (by decide) (fun K hK => ?_)
  refine goes_ Try.func53 (by kernel_rfl) rfl #[.agg #[.slice A12 t.length c12, .slice B12 l.length d12], .agg #[.int .i64 op, .int .i64 a]] (by rfl) rfl rfl (by (try simp only [List.map_toArray, List.map_cons, List.map_nil]); first | done | rfl) ?_
  refine (usesI _ _ _ _ t l _ _ _ ?_ hm).mono ?_
  · exact hI.rows.1
  rintro e w9 ⟨rfl, hb⟩
  refine ⟨_, rfl, ?_⟩
  refine hK.out _ _ (hI.step hb) (fun hI' => ?_)
  clear hK K hb hI
  have hI := hI'
  clear hI'
  refine norm_ (a' := ?_) ?_ ?_
  rotate_left
  · show Act.put _ (some 30) _ = _
    simp only [Act.put, List.setIfInBounds_toArray, List.set_cons_zero, List.set_cons_succ]
    rfl
  refine pure_ (i := 4) (N := (some 26)) (v := ?_) (a' := ?_) #[true, true, true, true, true, false, false, false, false] rfl rfl (by kernel_rfl) (fun _ _ _ h => h) (Or.inl ⟨by rfl, ?_⟩) ?_ ?_
  rotate_left
  · intro w'
    go_simp
    with_reducible rfl
  rotate_left
  · simp only [Act.put, List.setIfInBounds_toArray, List.set_cons_zero, List.set_cons_succ]
    rfl
  refine pure_ (i := 5) (N := (some 31)) (v := ?_) (a' := ?_) #[true, true, true, true, true, true, false, false, false] rfl rfl (by kernel_rfl) (fun _ _ _ h => h) (Or.inl ⟨by rfl, ?_⟩) ?_ ?_
  rotate_left
  · intro w'
    go_simp
    with_reducible rfl
  rotate_left
  · simp only [Act.put, List.setIfInBounds_toArray, List.set_cons_zero, List.set_cons_succ]
    rfl
  refine pure_ (i := 6) (N := (some 32)) (v := ?_) (a' := ?_) #[true, true, true, true, true, true, true, false, false] rfl rfl (by kernel_rfl) (fun _ _ _ h => h) (Or.inl ⟨by rfl, ?_⟩) ?_ ?_
  rotate_left
  · intro w'
    go_simp
    with_reducible rfl
  rotate_left
  · simp only [Act.put, List.setIfInBounds_toArray, List.set_cons_zero, List.set_cons_succ]
    rfl
  refine pure_ (i := 7) (N := (some 9)) (v := ?_) (a' := ?_) #[true, true, true, true, true, true, true, true, false] rfl rfl (by kernel_rfl) (fun _ _ _ h => h) (Or.inl ⟨by rfl, ?_⟩) ?_ ?_
  rotate_left
  · intro w'
    go_simp
    with_reducible rfl
  rotate_left
  · simp only [Act.put, List.setIfInBounds_toArray, List.set_cons_zero, List.set_cons_succ]
    rfl
  refine pure_ (i := 8) (N := (some 10)) (v := ?_) (a' := ?_) #[true, true, true, true, true, true, true, true, true] rfl rfl (by kernel_rfl) (fun _ _ _ h => h) (Or.inl ⟨by rfl, ?_⟩) ?_ ?_
  rotate_left
  · intro w'
    go_simp
    with_reducible rfl
  rotate_left
  · simp only [Act.put, List.setIfInBounds_toArray, List.set_cons_zero, List.set_cons_succ]
    rfl
  refine done_ (by kernel_rfl) ?_
  have hI6 := hI
  clear hI
  have x6_0 := hI6.cell 0 rfl
  have y6_0 := hI6.lt 0 rfl
  have x6_1 := hI6.cell 1 rfl
  have y6_1 := hI6.lt 1 rfl
  have x6_2 := hI6.cell 2 rfl
  have y6_2 := hI6.lt 2 rfl
  have B6 := hI6.bel
  go_wp2_with fail
  have hI7 := hI6
  clear x6_0 y6_0 x6_1 y6_1 x6_2 y6_2 B6 hI6
  refine start_ (n := 5) (S := Inv w [(w6.heap.size, .cells #[.slice A12 t.length c12, .slice B12 l.length d12] 83 (0, 0)), (w.heap.size + 1, .cells #[.int .i64 op, .int .i64 a] 77 (0, 0)), (w.heap.size, .cells #[.slice A t.length c, .slice B l.length d] 75 (0, 0))] (fun W' => kFunc.Row W' B12 l.length l ∧ Knd.str.Row W' A12 t.length t ∧ kFunc.Row W' B11 l.length l ∧ Knd.str.Row W' A11 t.length t ∧ True)) (ds := []) #[false, false, false, false, false] (by kernel_rfl) rfl rfl hI7.drew (fun hI => ?_)
  clear hI7
  generalize World.drew _ = w10 at hI ⊢
  refine take_ (i := 0) (N := (some 41)) (v := ?_) (a' := ?_) #[true, false, false, false, false] rfl rfl (by kernel_rfl) (fun _ _ _ h => h) (Or.inl ⟨by rfl, ?_⟩) hI ?_ ?_
  rotate_left
  · intro w' h'
    have x := h'.cell 0 rfl
    go_simp
    with_reducible rfl
  rotate_left
  · simp only [Act.put, List.setIfInBounds_toArray, List.set_cons_zero, List.set_cons_succ]
    rfl
  refine take_ (i := 1) (N := (some 42)) (v := ?_) (a' := ?_) #[true, true, false, false, false] rfl rfl (by kernel_rfl) (fun _ _ _ h => h) (Or.inl ⟨by rfl, ?_⟩) hI ?_ ?_
  rotate_left
  · intro w' h'
    have x := h'.cell 2 rfl
    go_simp
    with_reducible rfl
  rotate_left
  · simp only [Act.put, List.setIfInBounds_toArray, List.set_cons_zero, List.set_cons_succ]
    rfl
  refine one_ (i := 2) (N := (some 43)) #[true, true, true, false, false] rfl rfl (by kernel_rfl) (by decide) (fun K hK => ?_)
  refine goes_ Try.func51 (by kernel_rfl) rfl #[.agg #[.slice A t.length c, .slice B l.length d]] (by rfl) rfl rfl (by (try simp only [List.map_toArray, List.map_cons, List.map_nil]); first | done | rfl) ?_
  refine (toModule _ _ _ _ t l _ ?_ ?_ htm hm hv).mono ?_
  · exact ht0.below hI.bel
  · exact hr0.below hI.bel
  rintro e w11 ⟨v, u, F3, G3, rfl, hot, hor, hnd, hF, hb⟩
  obtain ⟨A13, c13, rfl, _, ht3⟩ := hot.row
  obtain ⟨B13, d13, rfl, _, hr3⟩ := hor.row
  clear hot hor hnd hF
  refine ⟨_, rfl, ?_⟩
  refine hK.out _ _ (hI.step hb) (fun hI' => ?_)
  clear hK K hb hI
  have hI := hI'
  clear hI'
  refine norm_ (a' := ?_) ?_ ?_
  rotate_left
  · show Act.put _ (some 43) _ = _
    simp only [Act.put, List.setIfInBounds_toArray, List.set_cons_zero, List.set_cons_succ]
    rfl
  refine one_ (i := 3) (N := (some 44)) #[true, true, true, true, false] rfl rfl (by kernel_rfl) (by decide) (fun K hK => ?_)
  refine goes_ Try.func54 (by kernel_rfl) rfl #[.agg #[.slice A12 t.length c12, .slice B12 l.length d12], .agg #[.slice A13 t.length c13, .slice B13 l.length d13]] (by rfl) rfl rfl (by (try simp only [List.map_toArray, List.map_cons, List.map_nil]); first | done | rfl) ?_
  refine (eqModule _ _ _ _ _ _ _ _ t l _ ?_ ?_ ?_ ?_).mono ?_
  · exact hI.rows.2.1
  · exact hI.rows.1
  · exact ht3
  · exact hr3
  rintro e w12 ⟨rfl, hb⟩
  refine ⟨_, rfl, ?_⟩
  replace ht3 := ht3.below hb
  replace hr3 := hr3.below hb
  refine hK.out _ _ (hI.step hb) (fun hI' => ?_)
  clear hK K hb hI
  have hI := hI'
  clear hI'
  refine norm_ (a' := ?_) ?_ ?_
  rotate_left
  · show Act.put _ (some 44) _ = _
    simp only [Act.put, List.setIfInBounds_toArray, List.set_cons_zero, List.set_cons_succ]
    rfl
  refine pure_ (i := 4) (N := (some 45)) (v := ?_) (a' := ?_) #[true, true, true, true, true] rfl rfl (by kernel_rfl) (fun _ _ _ h => h) (Or.inl ⟨by rfl, ?_⟩) ?_ ?_
  rotate_left
  · intro w'
    go_simp
    with_reducible rfl
  rotate_left
  · simp only [Act.put, List.setIfInBounds_toArray, List.set_cons_zero, List.set_cons_succ]
    rfl
  refine done_ (by kernel_rfl) ?_
  have hI8 := hI
  clear hI
  replace hI8 := hI8.add (R' := fun W' => Knd.str.Row W' A13 t.length t) (Stab.row _ _ _ _) ht3
  replace hI8 := hI8.add (R' := fun W' => kFunc.Row W' B13 l.length l) (Stab.row _ _ _ _) hr3
  clear ht3 hr3
  have x8_0 := hI8.cell 0 rfl
  have y8_0 := hI8.lt 0 rfl
  have x8_1 := hI8.cell 1 rfl
  have y8_1 := hI8.lt 1 rfl
  have x8_2 := hI8.cell 2 rfl
  have y8_2 := hI8.lt 2 rfl
  have B8 := hI8.bel
  go_wp2
  go_ret
  exact ⟨rfl, hI8.bel⟩
end Go.Proofs.Ytkllanigogkbiaa.Dat
