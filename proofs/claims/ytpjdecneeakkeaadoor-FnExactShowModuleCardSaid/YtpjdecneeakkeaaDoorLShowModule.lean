/- The walk of the law of ShowModule. Written by a program (lawg.py). -/
import Derived.Test.YtpjdecneeakkeaaDoorK3
import Derived.Test.YtpjdecneeakkeaaDoorK4
import Derived.Test.YtpjdecneeakkeaaDoorShowI
namespace Go.Proofs.YtpjdecneeakkeaaDoor.Dat
open Go Go.RowKit Go.Proofs.YtpjdecneeakkeaaDoor.Mem
set_option linter.unusedVariables false
set_option linter.unusedSimpArgs false
set_option maxHeartbeats 8000000 in
set_option maxRecDepth 100000 in
theorem lawxShowModule (t : List ByteArray) (l : List DFunc) (w : World) {A B : Option Addr} {c d : Nat} (ht0 : Knd.str.Row w A t.length t) (_ : t.length ≤ c) (hr0 : kFunc.Row w B l.length l) (_ : l.length ≤ d) (hT : t.length ≤ maxLen ∧ ∀ y ∈ t, y.size ≤ maxLen) (hL : l.length ≤ maxLen ∧ ∀ y ∈ l, VFunc y) (htab : Tab w) (hwords : Words w) : Calls Tryd.prog 7 #[.agg #[.slice A t.length c, .slice B l.length d]] w fun e w' => e = .returned (.bool true) ∧ Below w.heap.size w w' := by
  by_cases z0 : ((szMod t l : Nat) : Int) ≤ (1048576 : Int)
  rotate_left
  · skip
    have Z0 := szModule A B c d t l (1048576)
    rw [lft_gt (by omega)] at Z0
    have hS := (St.start w).made (.cells #[.slice A t.length c, .slice B l.length d] 56 (0, 0))
    go_enter Tryd.func7, Tryd.ntmps7
    go_wp2_with fail
    refine (Z0 _ (ht0.below hS.bel) (hr0.below hS.bel) hT.1 hL.1 hT.2 (fun x h => (hL.2 x h).2.2.1) (by omega) (by omega)).mono ?_
    rintro e w1 ⟨rfl, hb⟩
    try clear x_P0
    replace hS := hS.step hb
    clear hb
    have x_P0 := hS.cell 0 rfl
    go_wp2
    go_ret
    exact ⟨rfl, hS.bel⟩
  have Z0 := szModule A B c d t l (1048576)
  rw [lft_le z0] at Z0
  have g0 : 0 ≤ 1048576 - ((szMod t l : Nat) : Int) := by omega
  obtain ⟨htm, hm, hv⟩ := szMod_small z0
  have hv2 : ∀ x ∈ l, x.code.length ≤ 1048576 ∧ -9223372036854775808 ≤ x.locals ∧ x.locals ≤ 9223372036854775807 := fun x h => ⟨hv x h, wf_lo (hL.2 x h).2.1, wf_hi (hL.2 x h).2.1⟩
  have hva : ∀ x ∈ l, ∀ y ∈ x.code, I64 y.a := fun x hx y hy => wfI ((hL.2 x hx).2.2.2 y hy).2
  obtain ⟨X, hX⟩ : ∃ X : List UInt8, showL t l = X := ⟨_, rfl⟩
  have HX := Lib.hid hX
  clear hX
  have hS := (St.start w).made (.cells #[.slice A t.length c, .slice B l.length d] 56 (0, 0))
  go_enter Tryd.func7, Tryd.ntmps7
  go_wp2_with fail
  refine (Z0 _ (ht0.below hS.bel) (hr0.below hS.bel) hT.1 hL.1 hT.2 (fun x h => (hL.2 x h).2.2.1) (by omega) (by omega)).mono ?_
  rintro e w1 ⟨rfl, hb⟩
  try clear x_P0
  replace hS := hS.step hb
  clear hb
  have x_P0 := hS.cell 0 rfl
  go_wp2_with fail
  refine (toModule _ _ _ _ t l _ (ht0.below hS.bel) (hr0.below hS.bel) htm hm hv).mono ?_
  rintro e w2 ⟨v, u, F2, G2, rfl, hot, hor, hnd, hF, hb⟩
  try clear x_P0
  replace hS := St.newMod hS hot hor hnd hF hb
  clear hot hor hnd hF hb
  obtain ⟨A2, c2, B2, d2, rfl, rfl, _, _⟩ := St.modR hS 0 rfl
  have x_P0 := hS.cell 1 rfl
  go_wp2_with fail
  refine (show3 _ _ _ _ t l _ ⟨(St.modA hS 0 rfl).1, (St.modA hS 0 rfl).2, htm, hm, hT.2, hv2⟩ hva HX.out).mono ?_
  rintro e w3 ⟨rfl, hb⟩
  try clear x_P0
  replace hS := hS.step hb
  clear hb
  have x_P0 := hS.cell 1 rfl
  go_wp2_with fail
  refine (toModule _ _ _ _ t l _ (ht0.below hS.bel) (hr0.below hS.bel) htm hm hv).mono ?_
  rintro e w4 ⟨v, u, F4, G4, rfl, hot, hor, hnd, hF, hb⟩
  try clear x_P0
  replace hS := St.newMod hS hot hor hnd hF hb
  clear hot hor hnd hF hb
  obtain ⟨A4, c4, B4, d4, rfl, rfl, _, _⟩ := St.modR hS 0 rfl
  have x_P0 := hS.cell 2 rfl
  try clear x_P0
  try clear x_b5
  replace hS := hS.made (.cells #[.slice A4 t.length c4, .slice B4 l.length d4] 61 (0, 0))
  have x_P0 := hS.cell 3 rfl
  have x_b5 := hS.cell 0 rfl
  go_wp2_with fail
  refine (showI _ _ _ _ t l _ ⟨(St.modA hS 1 rfl).1, (St.modA hS 1 rfl).2, htm, hm, hT.2, hv2⟩ hva (htab.below hS.bel) (hwords.below hS.bel) HX.out).mono ?_
  rintro e w6 ⟨rfl, hb⟩
  try clear x_P0
  try clear x_b5
  replace hS := hS.step hb
  clear hb
  have x_P0 := hS.cell 3 rfl
  have x_b5 := hS.cell 0 rfl
  go_wp2
  try clear x_P0
  try clear x_b5
  replace hS := hS.drew
  refine wp_region_held_drew (S := (fun w' => w'.cell? ⟨w4.heap.size, 0, none⟩ = some (.slice A4 t.length c4) ∧ w'.cell? ⟨w4.heap.size, 1, none⟩ = some (.slice B4 l.length d4) ∧ w'.cell? ⟨w.heap.size, 0, none⟩ = some (.slice A t.length c) ∧ w'.cell? ⟨w.heap.size, 1, none⟩ = some (.slice B l.length d))) (by kernel_rfl) (⟨hS.cell 0 rfl 0, hS.cell 0 rfl 1, hS.cell 3 rfl 0, hS.cell 3 rfl 1⟩) (fun hHeld => ?_)
  first | (refine regW 0 (v := ?_) rfl (by rfl) (by kernel_rfl) (fun _ _ _ h => h) ?_ (by assumption) ?_; rotate_left; focus (intro w9 hSw; (try dsimp only at hSw); go_simp; (try with_reducible rfl); done)) | refine regU 0 rfl (by rfl) (by kernel_rfl) (fun _ _ _ h => h) (by assumption) ?_ | refine regN 0 rfl (by rfl) (by kernel_rfl) (by assumption) ?_
  try simp only [Act.put, List.setIfInBounds_toArray, List.set_cons_zero, List.set_cons_succ]
  first | (refine regW 1 (v := ?_) rfl (by rfl) (by kernel_rfl) (fun _ _ _ h => h) ?_ (by assumption) ?_; rotate_left; focus (intro w9 hSw; (try dsimp only at hSw); go_simp; (try with_reducible rfl); done)) | refine regU 1 rfl (by rfl) (by kernel_rfl) (fun _ _ _ h => h) (by assumption) ?_ | refine regN 1 rfl (by rfl) (by kernel_rfl) (by assumption) ?_
  try simp only [Act.put, List.setIfInBounds_toArray, List.set_cons_zero, List.set_cons_succ]
  refine regC 2 rfl (by kernel_rfl) (by rfl) (fun Kq hKq => ?_)
  go_simp
  (with_reducible refine (toModule _ _ _ _ t l _ (ht0.below hS.bel) (hr0.below hS.bel) htm hm hv).mono ?_)
  rintro e w7 ⟨v, u, F7, G7, rfl, hot, hor, hnd, hF, hb⟩; replace hS := St.newMod hS hot hor hnd hF hb; clear hot hor hnd hF hb; obtain ⟨A7, c7, B7, d7, rfl, rfl, _, _⟩ := St.modR hS 0 rfl
  try go_wp2_with fail
  refine hKq.out _ _ (⟨hS.cell 1 rfl 0, hS.cell 1 rfl 1, hS.cell 4 rfl 0, hS.cell 4 rfl 1⟩) (fun hHeld => ?_)
  clear hKq Kq
  (try simp only [Act.put, List.setIfInBounds_toArray, List.set_cons_zero, List.set_cons_succ])
  refine regC 3 rfl (by kernel_rfl) (by rfl) (fun Kq hKq => ?_)
  go_simp
  (with_reducible refine (eqModule _ _ _ _ _ _ _ _ t l _ (St.modA hS 2 rfl).1 (St.modA hS 2 rfl).2 (St.modA hS 0 rfl).1 (St.modA hS 0 rfl).2).mono ?_)
  rintro e w8 ⟨rfl, hb⟩; replace hS := hS.step hb; clear hb
  try go_wp2_with fail
  refine hKq.out _ _ (⟨hS.cell 1 rfl 0, hS.cell 1 rfl 1, hS.cell 4 rfl 0, hS.cell 4 rfl 1⟩) (fun hHeld => ?_)
  clear hKq Kq
  (try simp only [Act.put, List.setIfInBounds_toArray, List.set_cons_zero, List.set_cons_succ])
  first | (refine regW 4 (v := ?_) rfl (by rfl) (by kernel_rfl) (fun _ _ _ h => h) ?_ (by assumption) ?_; rotate_left; focus (intro w9 hSw; (try dsimp only at hSw); go_simp; (try with_reducible rfl); done)) | refine regU 4 rfl (by rfl) (by kernel_rfl) (fun _ _ _ h => h) (by assumption) ?_ | refine regN 4 rfl (by rfl) (by kernel_rfl) (by assumption) ?_
  try simp only [Act.put, List.setIfInBounds_toArray, List.set_cons_zero, List.set_cons_succ]
  refine wpAnyH_done (by kernel_rfl) ?_ _
  clear hHeld
  have x_P0 := hS.cell 4 rfl
  have x_b5 := hS.cell 1 rfl
  go_wp2
  go_ret
  exact ⟨rfl, hS.bel⟩
theorem lawShowModule (t : List ByteArray) (l : List DFunc) (w : World) {A B : Option Addr} {c d : Nat} (ht0 : Knd.str.Row w A t.length t) (h_t : t.length ≤ c) (hr0 : kFunc.Row w B l.length l) (h_l : l.length ≤ d) (hT : t.length ≤ maxLen ∧ ∀ y ∈ t, y.size ≤ maxLen) (hL : l.length ≤ maxLen ∧ ∀ y ∈ l, VFunc y) (htab : Tab w) (hwords : Words w) : Calls Tryd.prog 7 #[.agg #[.slice A t.length c, .slice B l.length d]] w fun e w' => e = .returned (.bool true) ∧ Below w.heap.size w w' := lawxShowModule t l w ht0 h_t hr0 h_l hT hL htab hwords
end Go.Proofs.YtpjdecneeakkeaaDoor.Dat
