/- The walk of the law of Cut. Written by a program (lawg.py). -/
import Derived.Test.YticlknijmnddeaaK3
import Derived.Test.YticlknijmnddeaaK4
import Derived.Test.YticlknijmnddeaaCut2
import Derived.Test.YticlknijmnddeaaGM
namespace Go.Proofs.Yticlknijmnddeaa.Dat
open Go Go.RowKit Go.Proofs.Yticlknijmnddeaa.Mem
set_option linter.unusedVariables false
set_option linter.unusedSimpArgs false
set_option maxHeartbeats 8000000 in
set_option maxRecDepth 100000 in
theorem lawxCut (t : List ByteArray) (l : List DFunc) (w : World) {A B : Option Addr} {c d : Nat} (ht0 : Knd.str.Row w A t.length t) (_ : t.length ≤ c) (hr0 : kFunc.Row w B l.length l) (_ : l.length ≤ d) (hT : t.length ≤ maxLen ∧ ∀ y ∈ t, y.size ≤ maxLen) (hL : l.length ≤ maxLen ∧ ∀ y ∈ l, VFunc y) : Calls Try.prog 4 #[.agg #[.slice A t.length c, .slice B l.length d]] w fun e w' => e = .returned (.bool true) ∧ Below w.heap.size w w' := by
  by_cases z0 : ((szMod t l : Nat) : Int) ≤ (1048576 : Int)
  rotate_left
  · skip
    have Z0 := szModule A B c d t l (1048576)
    rw [lft_gt (by omega)] at Z0
    have hS := (St.start w).made (.cells #[.slice A t.length c, .slice B l.length d] 37 (0, 0))
    go_enter Try.func4, Try.ntmps4
    go_wp2_with fail
    refine (Z0 _ (ht0.below hS.bel) (hr0.below hS.bel) hT.1 hL.1 hT.2 (fun x h => (hL.2 x h).2.2.1) (by omega) (by omega)).mono ?_
    rintro e w1 ⟨rfl, hb⟩
    try clear x_P0
    replace hS := hS.step hb
    clear hb
    have x_P0 := hS.cell 0 rfl
    go_wp2
    go_ret
    exact ⟨rfl, hS.bel⟩
  have Z0 := szModule A B c d t l (1048576)
  rw [lft_le z0] at Z0
  have g0 : 0 ≤ 1048576 - ((szMod t l : Nat) : Int) := by omega
  obtain ⟨htm, hm, hv⟩ := szMod_small z0
  have hv2 : ∀ x ∈ l, x.code.length ≤ 1048576 ∧ -9223372036854775808 ≤ x.locals ∧ x.locals ≤ 9223372036854775807 := fun x h => ⟨hv x h, wf_lo (hL.2 x h).2.1, wf_hi (hL.2 x h).2.1⟩
  have hct0 := ctFunc_small l hm hv
  have hsmall := cut_small t l
  obtain ⟨X, hX⟩ : ∃ X : List ByteArray, cutT t l = X := ⟨_, rfl⟩
  obtain ⟨Y, hY⟩ : ∃ Y : List DFunc, cutF t l = Y := ⟨_, rfl⟩
  rw [hX, hY] at hsmall
  have HX := Lib.hid hX
  have HY := Lib.hid hY
  clear hX hY
  have hX1 := hsmall.1
  have hY1 := hsmall.2.1
  have hvY := hsmall.2.2
  have hcX := ctFunc_small Y hY1 hvY
  have hS := (St.start w).made (.cells #[.slice A t.length c, .slice B l.length d] 37 (0, 0))
  go_enter Try.func4, Try.ntmps4
  go_wp2_with fail
  refine (Z0 _ (ht0.below hS.bel) (hr0.below hS.bel) hT.1 hL.1 hT.2 (fun x h => (hL.2 x h).2.2.1) (by omega) (by omega)).mono ?_
  rintro e w1 ⟨rfl, hb⟩
  try clear x_P0
  replace hS := hS.step hb
  clear hb
  have x_P0 := hS.cell 0 rfl
  go_wp2_with fail
  refine (toModule _ _ _ _ t l _ (ht0.below hS.bel) (hr0.below hS.bel) htm hm hv).mono ?_
  rintro e w2 ⟨v, u, F2, G2, rfl, hot, hor, hnd, hF, hb⟩
  try clear x_P0
  replace hS := St.newMod hS hot hor hnd hF hb
  clear hot hor hnd hF hb
  obtain ⟨A2, c2, B2, d2, rfl, rfl, _, _⟩ := St.modR hS 0 rfl
  have x_P0 := hS.cell 1 rfl
  go_wp2_with fail
  refine (cut03' _ _ _ _ t l _ ⟨(St.modA hS 0 rfl).1, (St.modA hS 0 rfl).2, htm, hm, hT.2, hv2⟩ HX.out HY.out).mono ?_
  rintro e w3 ⟨v, u, F3, G3, rfl, hot, hor, hnd, hF, hb⟩
  try clear x_P0
  replace hS := St.newMod hS hot hor hnd hF hb
  clear hot hor hnd hF hb
  obtain ⟨A3, c3, B3, d3, rfl, rfl, _, _⟩ := St.modR hS 0 rfl
  have x_P0 := hS.cell 2 rfl
  try clear x_P0
  try clear x_b4
  replace hS := hS.made (.cells #[.slice A3 X.length c3, .slice B3 Y.length d3] 26 (0, 0))
  have x_P0 := hS.cell 3 rfl
  have x_b4 := hS.cell 0 rfl
  go_wp2_with fail
  refine (toModule _ _ _ _ t l _ (ht0.below hS.bel) (hr0.below hS.bel) htm hm hv).mono ?_
  rintro e w5 ⟨v, u, F5, G5, rfl, hot, hor, hnd, hF, hb⟩
  try clear x_P0
  try clear x_b4
  replace hS := St.newMod hS hot hor hnd hF hb
  clear hot hor hnd hF hb
  obtain ⟨A5, c5, B5, d5, rfl, rfl, _, _⟩ := St.modR hS 0 rfl
  have x_P0 := hS.cell 4 rfl
  have x_b4 := hS.cell 1 rfl
  try clear x_P0
  try clear x_b4
  try clear x_b6
  replace hS := hS.made (.cells #[.slice A5 t.length c5, .slice B5 l.length d5] 26 (0, 0))
  have x_P0 := hS.cell 5 rfl
  have x_b4 := hS.cell 2 rfl
  have x_b6 := hS.cell 0 rfl
  go_wp2_with fail
  refine (cutI' _ _ _ _ t l _ ⟨(St.modA hS 1 rfl).1, (St.modA hS 1 rfl).2, htm, hm, hT.2, hv2⟩ HX.out HY.out).mono ?_
  rintro e w7 ⟨v, u, F7, G7, rfl, hot, hor, hnd, hF, hb⟩
  try clear x_P0
  try clear x_b4
  try clear x_b6
  replace hS := St.newMod hS hot hor hnd hF hb
  clear hot hor hnd hF hb
  obtain ⟨A7, c7, B7, d7, rfl, rfl, _, _⟩ := St.modR hS 0 rfl
  have x_P0 := hS.cell 6 rfl
  have x_b4 := hS.cell 3 rfl
  have x_b6 := hS.cell 1 rfl
  try clear x_P0
  try clear x_b4
  try clear x_b6
  try clear x_b8
  replace hS := hS.made (.cells #[.slice A7 X.length c7, .slice B7 Y.length d7] 26 (0, 0))
  have x_P0 := hS.cell 7 rfl
  have x_b4 := hS.cell 4 rfl
  have x_b6 := hS.cell 2 rfl
  have x_b8 := hS.cell 0 rfl
  go_wp2_with fail
  refine (eqModule _ _ _ _ _ _ _ _ X Y _ (St.modA hS 1 rfl).1 (St.modA hS 1 rfl).2 (St.modA hS 5 rfl).1 (St.modA hS 5 rfl).2).mono ?_
  rintro e w9 ⟨rfl, hb⟩
  try clear x_P0
  try clear x_b4
  try clear x_b6
  try clear x_b8
  replace hS := hS.step hb
  clear hb
  have x_P0 := hS.cell 7 rfl
  have x_b4 := hS.cell 4 rfl
  have x_b6 := hS.cell 2 rfl
  have x_b8 := hS.cell 0 rfl
  go_wp2
  try clear x_P0
  try clear x_b4
  try clear x_b6
  try clear x_b8
  replace hS := hS.drew
  refine wp_region_held_drew (S := (fun w' => w'.cell? ⟨w5.heap.size, 0, none⟩ = some (.slice A5 t.length c5) ∧ w'.cell? ⟨w5.heap.size, 1, none⟩ = some (.slice B5 l.length d5) ∧ w'.cell? ⟨w.heap.size, 0, none⟩ = some (.slice A t.length c) ∧ w'.cell? ⟨w.heap.size, 1, none⟩ = some (.slice B l.length d))) (by kernel_rfl) (⟨hS.cell 2 rfl 0, hS.cell 2 rfl 1, hS.cell 7 rfl 0, hS.cell 7 rfl 1⟩) (fun hHeld => ?_)
  first | (refine regW 0 (v := ?_) rfl (by rfl) (by kernel_rfl) (fun _ _ _ h => h) ?_ (by assumption) ?_; rotate_left; focus (intro w9 hSw; (try dsimp only at hSw); go_simp; (try with_reducible rfl); done)) | refine regU 0 rfl (by rfl) (by kernel_rfl) (fun _ _ _ h => h) (by assumption) ?_ | refine regN 0 rfl (by rfl) (by kernel_rfl) (by assumption) ?_
  try simp only [Act.put, List.setIfInBounds_toArray, List.set_cons_zero, List.set_cons_succ]
  first | (refine regW 1 (v := ?_) rfl (by rfl) (by kernel_rfl) (fun _ _ _ h => h) ?_ (by assumption) ?_; rotate_left; focus (intro w9 hSw; (try dsimp only at hSw); go_simp; (try with_reducible rfl); done)) | refine regU 1 rfl (by rfl) (by kernel_rfl) (fun _ _ _ h => h) (by assumption) ?_ | refine regN 1 rfl (by rfl) (by kernel_rfl) (by assumption) ?_
  try simp only [Act.put, List.setIfInBounds_toArray, List.set_cons_zero, List.set_cons_succ]
  refine regC 2 rfl (by kernel_rfl) (by rfl) (fun Kq hKq => ?_)
  go_simp
  (with_reducible refine (toModule _ _ _ _ t l _ (ht0.below hS.bel) (hr0.below hS.bel) htm hm hv).mono ?_)
  rintro e w10 ⟨v, u, F10, G10, rfl, hot, hor, hnd, hF, hb⟩; replace hS := St.newMod hS hot hor hnd hF hb; clear hot hor hnd hF hb; obtain ⟨A10, c10, B10, d10, rfl, rfl, _, _⟩ := St.modR hS 0 rfl
  try go_wp2_with fail
  refine hKq.out _ _ (⟨hS.cell 3 rfl 0, hS.cell 3 rfl 1, hS.cell 8 rfl 0, hS.cell 8 rfl 1⟩) (fun hHeld => ?_)
  clear hKq Kq
  (try simp only [Act.put, List.setIfInBounds_toArray, List.set_cons_zero, List.set_cons_succ])
  refine regC 3 rfl (by kernel_rfl) (by rfl) (fun Kq hKq => ?_)
  go_simp
  (with_reducible refine (eqModule _ _ _ _ _ _ _ _ t l _ (St.modA hS 4 rfl).1 (St.modA hS 4 rfl).2 (St.modA hS 0 rfl).1 (St.modA hS 0 rfl).2).mono ?_)
  rintro e w11 ⟨rfl, hb⟩; replace hS := hS.step hb; clear hb
  try go_wp2_with fail
  refine hKq.out _ _ (⟨hS.cell 3 rfl 0, hS.cell 3 rfl 1, hS.cell 8 rfl 0, hS.cell 8 rfl 1⟩) (fun hHeld => ?_)
  clear hKq Kq
  (try simp only [Act.put, List.setIfInBounds_toArray, List.set_cons_zero, List.set_cons_succ])
  first | (refine regW 4 (v := ?_) rfl (by rfl) (by kernel_rfl) (fun _ _ _ h => h) ?_ (by assumption) ?_; rotate_left; focus (intro w9 hSw; (try dsimp only at hSw); go_simp; (try with_reducible rfl); done)) | refine regU 4 rfl (by rfl) (by kernel_rfl) (fun _ _ _ h => h) (by assumption) ?_ | refine regN 4 rfl (by rfl) (by kernel_rfl) (by assumption) ?_
  try simp only [Act.put, List.setIfInBounds_toArray, List.set_cons_zero, List.set_cons_succ]
  refine wpAnyH_done (by kernel_rfl) ?_ _
  clear hHeld
  have x_P0 := hS.cell 8 rfl
  have x_b4 := hS.cell 5 rfl
  have x_b6 := hS.cell 3 rfl
  have x_b8 := hS.cell 1 rfl
  go_wp2_with fail
  refine (markModule _ _ t l 1 F5 G5 _ (hS.get 4 rfl).1 (hS.get 4 rfl).2 (hS.nodup 4 rfl) (by omega) (by omega) (by omega) (by omega) (fun x h => by have := hv x h; omega)).mono ?_
  rintro e w12 ⟨rfl, hmt, hml, hB⟩
  try clear x_P0
  try clear x_b4
  try clear x_b6
  try clear x_b8
  have hndx : (F5 ++ G5).Nodup := by have h9 := hS.nodup 4 rfl; exact h9
  replace hS := hS.upd (r' := Res.mod _ _ _ _ F5 G5) 4 rfl hB ⟨hmt, hml⟩ hndx (fun q hq => .inl hq)
  clear hmt hml hB hndx
  have x_P0 := hS.cell 8 rfl
  have x_b4 := hS.cell 5 rfl
  have x_b6 := hS.cell 3 rfl
  have x_b8 := hS.cell 1 rfl
  go_wp2_with fail
  refine (eqModule _ _ _ _ _ _ _ _ X Y _ (St.modA hS 2 rfl).1 (St.modA hS 2 rfl).2 (St.modA hS 6 rfl).1 (St.modA hS 6 rfl).2).mono ?_
  rintro e w13 ⟨rfl, hb⟩
  try clear x_P0
  try clear x_b4
  try clear x_b6
  try clear x_b8
  replace hS := hS.step hb
  clear hb
  have x_P0 := hS.cell 8 rfl
  have x_b4 := hS.cell 5 rfl
  have x_b6 := hS.cell 3 rfl
  have x_b8 := hS.cell 1 rfl
  go_wp2_with fail
  refine (markModule _ _ X Y 1 F7 G7 _ (hS.get 2 rfl).1 (hS.get 2 rfl).2 (hS.nodup 2 rfl) (by omega) (by omega) (by omega) (by omega) (fun x h => by have := hvY x h; omega)).mono ?_
  rintro e w14 ⟨rfl, hmt, hml, hB⟩
  try clear x_P0
  try clear x_b4
  try clear x_b6
  try clear x_b8
  have hndx : (F7 ++ G7).Nodup := by have h9 := hS.nodup 2 rfl; exact h9
  replace hS := hS.upd (r' := Res.mod _ _ _ _ F7 G7) 2 rfl hB ⟨hmt, hml⟩ hndx (fun q hq => .inl hq)
  clear hmt hml hB hndx
  have x_P0 := hS.cell 8 rfl
  have x_b4 := hS.cell 5 rfl
  have x_b6 := hS.cell 3 rfl
  have x_b8 := hS.cell 1 rfl
  go_wp2_with fail
  refine (heldModule_c _ _ _ _ X Y 1 _ (St.modN hS 2 rfl (mkL_len _ _ _ _) (mkL_len _ _ _ _)).1 (St.modN hS 2 rfl (mkL_len _ _ _ _) (mkL_len _ _ _ _)).2 (by omega) (by omega) hsmall).mono ?_
  rintro e w15 ⟨rfl, hb⟩
  try clear x_P0
  try clear x_b4
  try clear x_b6
  try clear x_b8
  replace hS := hS.step hb
  clear hb
  have x_P0 := hS.cell 8 rfl
  have x_b4 := hS.cell 5 rfl
  have x_b6 := hS.cell 3 rfl
  have x_b8 := hS.cell 1 rfl
  go_wp2_with fail
  refine (toModule _ _ _ _ t l _ (ht0.below hS.bel) (hr0.below hS.bel) htm hm hv).mono ?_
  rintro e w16 ⟨v, u, F16, G16, rfl, hot, hor, hnd, hF, hb⟩
  try clear x_P0
  try clear x_b4
  try clear x_b6
  try clear x_b8
  replace hS := St.newMod hS hot hor hnd hF hb
  clear hot hor hnd hF hb
  obtain ⟨A16, c16, B16, d16, rfl, rfl, _, _⟩ := St.modR hS 0 rfl
  have x_P0 := hS.cell 9 rfl
  have x_b4 := hS.cell 6 rfl
  have x_b6 := hS.cell 4 rfl
  have x_b8 := hS.cell 2 rfl
  go_wp2_with fail
  refine (cutI' _ _ _ _ t l _ ⟨(St.modA hS 0 rfl).1, (St.modA hS 0 rfl).2, htm, hm, hT.2, hv2⟩ HX.out HY.out).mono ?_
  rintro e w17 ⟨v, u, F17, G17, rfl, hot, hor, hnd, hF, hb⟩
  try clear x_P0
  try clear x_b4
  try clear x_b6
  try clear x_b8
  replace hS := St.newMod hS hot hor hnd hF hb
  clear hot hor hnd hF hb
  obtain ⟨A17, c17, B17, d17, rfl, rfl, _, _⟩ := St.modR hS 0 rfl
  have x_P0 := hS.cell 10 rfl
  have x_b4 := hS.cell 7 rfl
  have x_b6 := hS.cell 5 rfl
  have x_b8 := hS.cell 3 rfl
  try clear x_P0
  try clear x_b4
  try clear x_b6
  try clear x_b8
  try clear x_b18
  replace hS := hS.made (.cells #[.slice A17 X.length c17, .slice B17 Y.length d17] 26 (0, 0))
  have x_P0 := hS.cell 11 rfl
  have x_b4 := hS.cell 8 rfl
  have x_b6 := hS.cell 6 rfl
  have x_b8 := hS.cell 4 rfl
  have x_b18 := hS.cell 0 rfl
  go_wp2_with fail
  refine (eqModule _ _ _ _ _ _ _ _ X Y _ (St.modA hS 1 rfl).1 (St.modA hS 1 rfl).2 (St.modA hS 9 rfl).1 (St.modA hS 9 rfl).2).mono ?_
  rintro e w19 ⟨rfl, hb⟩
  try clear x_P0
  try clear x_b4
  try clear x_b6
  try clear x_b8
  try clear x_b18
  replace hS := hS.step hb
  clear hb
  have x_P0 := hS.cell 11 rfl
  have x_b4 := hS.cell 8 rfl
  have x_b6 := hS.cell 6 rfl
  have x_b8 := hS.cell 4 rfl
  have x_b18 := hS.cell 0 rfl
  go_wp2_with fail
  refine (heldModule_c _ _ _ _ X Y 1 _ (St.modN hS 5 rfl (mkL_len _ _ _ _) (mkL_len _ _ _ _)).1 (St.modN hS 5 rfl (mkL_len _ _ _ _) (mkL_len _ _ _ _)).2 (by omega) (by omega) hsmall).mono ?_
  rintro e w20 ⟨rfl, hb⟩
  try clear x_P0
  try clear x_b4
  try clear x_b6
  try clear x_b8
  try clear x_b18
  replace hS := hS.step hb
  clear hb
  have x_P0 := hS.cell 11 rfl
  have x_b4 := hS.cell 8 rfl
  have x_b6 := hS.cell 6 rfl
  have x_b8 := hS.cell 4 rfl
  have x_b18 := hS.cell 0 rfl
  go_wp2
  go_ret
  exact ⟨rfl, hS.bel⟩
theorem lawCut (t : List ByteArray) (l : List DFunc) (w : World) {A B : Option Addr} {c d : Nat} (ht0 : Knd.str.Row w A t.length t) (h_t : t.length ≤ c) (hr0 : kFunc.Row w B l.length l) (h_l : l.length ≤ d) (hT : t.length ≤ maxLen ∧ ∀ y ∈ t, y.size ≤ maxLen) (hL : l.length ≤ maxLen ∧ ∀ y ∈ l, VFunc y) : Calls Try.prog 4 #[.agg #[.slice A t.length c, .slice B l.length d]] w fun e w' => e = .returned (.bool true) ∧ Below w.heap.size w w' := lawxCut t l w ht0 h_t hr0 h_l hT hL
end Go.Proofs.Yticlknijmnddeaa.Dat
