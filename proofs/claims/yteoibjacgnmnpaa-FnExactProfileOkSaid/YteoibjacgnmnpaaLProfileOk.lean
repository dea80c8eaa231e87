/- The walk of the law of ProfileOk. Written by a program (lawg.py). -/
import Derived.Test.YteoibjacgnmnpaaLawSt
import Derived.Test.YteoibjacgnmnpaaReg
import Derived.Test.YteoibjacgnmnpaaGB
import Derived.Test.YteoibjacgnmnpaaProfOk
import Derived.Test.YteoibjacgnmnpaaGSite
namespace Go.Proofs.Yteoibjacgnmnpaa.Dat
open Go Go.RowKit Go.Proofs.Yteoibjacgnmnpaa.Mem
set_option linter.unusedVariables false
set_option linter.unusedSimpArgs false
set_option maxHeartbeats 8000000 in
set_option maxRecDepth 100000 in
theorem lawxProfileOk (t : List ByteArray) (l : List DFunc) (p : List DSite) (w : World) {A B : Option Addr} {c d : Nat} {A1 : Option Addr} {c1 : Nat} (ht0 : Knd.str.Row w A t.length t) (_ : t.length ≤ c) (hr0 : kFunc.Row w B l.length l) (_ : l.length ≤ d) (hr1 : kSite.Row w A1 p.length p) (_ : p.length ≤ c1) (hT : t.length ≤ maxLen ∧ ∀ y ∈ t, y.size ≤ maxLen) (hL : l.length ≤ maxLen ∧ ∀ y ∈ l, VFunc y) (hV1 : p.length ≤ maxLen ∧ ∀ y ∈ p, VSite y) : Calls Try.prog 5 #[.agg #[.slice A t.length c, .slice B l.length d], .slice A1 p.length c1] w fun e w' => e = .returned (.bool true) ∧ Below w.heap.size w w' := by
  by_cases z0 : ((szMod t l : Nat) : Int) ≤ (1048576 : Int)
  rotate_left
  · skip
    have Z0 := szModule A B c d t l (1048576)
    rw [lft_gt (by omega)] at Z0
    have hS := (St.start w).made (.cells #[.slice A t.length c, .slice B l.length d] 44 (0, 0))
    go_enter Try.func5, Try.ntmps5
    go_wp2_with fail
    refine (Z0 _ (ht0.below hS.bel) (hr0.below hS.bel) hT.1 hL.1 hT.2 (fun x h => (hL.2 x h).2.2.1) (by omega) (by omega)).mono ?_
    rintro e w1 ⟨rfl, hb⟩
    try clear x_P0
    replace hS := hS.step hb
    clear hb
    have x_P0 := hS.cell 0 rfl
    go_wp2
    go_ret
    exact ⟨rfl, hS.bel⟩
  by_cases z1 : ((p.length : Nat) : Int) ≤ (1048576 - ((szMod t l : Nat) : Int) : Int)
  rotate_left
  · skip
    have Z0 := szModule A B c d t l (1048576)
    rw [lft_le z0] at Z0
    have g0 : 0 ≤ 1048576 - ((szMod t l : Nat) : Int) := by omega
    have Z1 := szSiteS_c A1 c1 p (1048576 - ((szMod t l : Nat) : Int))
    rw [lft_gt (by omega)] at Z1
    have hS := (St.start w).made (.cells #[.slice A t.length c, .slice B l.length d] 44 (0, 0))
    go_enter Try.func5, Try.ntmps5
    go_wp2_with fail
    refine (Z0 _ (ht0.below hS.bel) (hr0.below hS.bel) hT.1 hL.1 hT.2 (fun x h => (hL.2 x h).2.2.1) (by omega) (by omega)).mono ?_
    rintro e w1 ⟨rfl, hb⟩
    try clear x_P0
    replace hS := hS.step hb
    clear hb
    have x_P0 := hS.cell 0 rfl
    go_wp2_with fail
    refine (Z1 _ (hr1.below hS.bel) hV1.1 hV1.2 (by omega) (by omega)).mono ?_
    rintro e w2 ⟨rfl, hb⟩
    try clear x_P0
    replace hS := hS.step hb
    clear hb
    have x_P0 := hS.cell 0 rfl
    go_wp2
    go_ret
    exact ⟨rfl, hS.bel⟩
  have Z0 := szModule A B c d t l (1048576)
  rw [lft_le z0] at Z0
  have g0 : 0 ≤ 1048576 - ((szMod t l : Nat) : Int) := by omega
  have Z1 := szSiteS_c A1 c1 p (1048576 - ((szMod t l : Nat) : Int))
  rw [lft_le z1] at Z1
  have g1 : 0 ≤ 1048576 - ((szMod t l : Nat) : Int) - ((p.length : Nat) : Int) := by omega
  obtain ⟨htm, hm, hv⟩ := szMod_small z0
  have hv2 : ∀ x ∈ l, x.code.length ≤ 1048576 ∧ -9223372036854775808 ≤ x.locals ∧ x.locals ≤ 9223372036854775807 := fun x h => ⟨hv x h, wf_lo (hL.2 x h).2.1, wf_hi (hL.2 x h).2.1⟩
  have hlen1 : p.length ≤ 1048576 := by omega
  have hS := (St.start w).made (.cells #[.slice A t.length c, .slice B l.length d] 44 (0, 0))
  go_enter Try.func5, Try.ntmps5
  go_wp2_with fail
  refine (Z0 _ (ht0.below hS.bel) (hr0.below hS.bel) hT.1 hL.1 hT.2 (fun x h => (hL.2 x h).2.2.1) (by omega) (by omega)).mono ?_
  rintro e w1 ⟨rfl, hb⟩
  try clear x_P0
  replace hS := hS.step hb
  clear hb
  have x_P0 := hS.cell 0 rfl
  go_wp2_with fail
  refine (Z1 _ (hr1.below hS.bel) hV1.1 hV1.2 (by omega) (by omega)).mono ?_
  rintro e w2 ⟨rfl, hb⟩
  try clear x_P0
  replace hS := hS.step hb
  clear hb
  have x_P0 := hS.cell 0 rfl
  go_wp2_with fail
  refine (toModule _ _ _ _ t l _ (ht0.below hS.bel) (hr0.below hS.bel) htm hm hv).mono ?_
  rintro e w3 ⟨v, u, F3, G3, rfl, hot, hor, hnd, hF, hb⟩
  try clear x_P0
  replace hS := St.newMod hS hot hor hnd hF hb
  clear hot hor hnd hF hb
  obtain ⟨A3, c3, B3, d3, rfl, rfl, _, _⟩ := St.modR hS 0 rfl
  have x_P0 := hS.cell 1 rfl
  go_wp2_with fail
  refine (toSiteS_c _ _ p _ (hr1.below hS.bel) hlen1).mono ?_
  intro e w4 hn
  try clear x_P0
  obtain ⟨A4, c4, F4, rfl, hS2⟩ := St.newRowF hS hn
  replace hS := hS2
  clear hn hS2
  have x_P0 := hS.cell 2 rfl
  go_wp2_with fail
  refine (profOk3 _ _ _ _ _ _ t l p _ ⟨(St.modA hS 1 rfl).1, (St.modA hS 1 rfl).2, htm, hm, hT.2, hv2⟩ (St.rowA hS 0 rfl) hlen1).mono ?_
  rintro e w5 ⟨rfl, hb⟩
  try clear x_P0
  replace hS := hS.step hb
  clear hb
  have x_P0 := hS.cell 2 rfl
  go_wp2_with fail
  refine (toModule _ _ _ _ t l _ (ht0.below hS.bel) (hr0.below hS.bel) htm hm hv).mono ?_
  rintro e w6 ⟨v, u, F6, G6, rfl, hot, hor, hnd, hF, hb⟩
  try clear x_P0
  replace hS := St.newMod hS hot hor hnd hF hb
  clear hot hor hnd hF hb
  obtain ⟨A6, c6, B6, d6, rfl, rfl, _, _⟩ := St.modR hS 0 rfl
  have x_P0 := hS.cell 3 rfl
  try clear x_P0
  try clear x_b7
  replace hS := hS.made (.cells #[.slice A6 t.length c6, .slice B6 l.length d6] 34 (0, 0))
  have x_P0 := hS.cell 4 rfl
  have x_b7 := hS.cell 0 rfl
  go_wp2_with fail
  refine (toSiteS_c _ _ p _ (hr1.below hS.bel) hlen1).mono ?_
  intro e w8 hn
  try clear x_P0
  try clear x_b7
  obtain ⟨A8, c8, F8, rfl, hS2⟩ := St.newRowF hS hn
  replace hS := hS2
  clear hn hS2
  have x_P0 := hS.cell 5 rfl
  have x_b7 := hS.cell 1 rfl
  go_wp2_with fail
  refine (profOkI _ _ _ _ _ _ t l p _ ⟨(St.modA hS 2 rfl).1, (St.modA hS 2 rfl).2, htm, hm, hT.2, hv2⟩ (St.rowA hS 0 rfl) hlen1).mono ?_
  rintro e w9 ⟨rfl, hb⟩
  try clear x_P0
  try clear x_b7
  replace hS := hS.step hb
  clear hb
  have x_P0 := hS.cell 5 rfl
  have x_b7 := hS.cell 1 rfl
  go_wp2
  try clear x_P0
  try clear x_b7
  replace hS := hS.drew
  refine wp_region_held_drew (S := (fun w' => w'.cell? ⟨w6.heap.size, 0, none⟩ = some (.slice A6 t.length c6) ∧ w'.cell? ⟨w6.heap.size, 1, none⟩ = some (.slice B6 l.length d6) ∧ w'.cell? ⟨w.heap.size, 0, none⟩ = some (.slice A t.length c) ∧ w'.cell? ⟨w.heap.size, 1, none⟩ = some (.slice B l.length d))) (by kernel_rfl) (⟨hS.cell 1 rfl 0, hS.cell 1 rfl 1, hS.cell 5 rfl 0, hS.cell 5 rfl 1⟩) (fun hHeld => ?_)
  first | (refine regW 0 (v := ?_) rfl (by rfl) (by kernel_rfl) (by kernel_rfl) (by kernel_rfl) (fun _ _ _ h => h) ?_ (by assumption) ?_; rotate_left; (focus (intro w9 hSw; (try dsimp only at hSw); go_simp; (try with_reducible rfl); done)); (try simp only [Act.put, List.setIfInBounds_toArray, List.set_cons_zero, List.set_cons_succ])) | (refine regU 0 rfl (by rfl) (by kernel_rfl) (by kernel_rfl) (by kernel_rfl) (fun _ _ _ h => h) (by assumption) ?_; (try simp only [Act.put, List.setIfInBounds_toArray, List.set_cons_zero, List.set_cons_succ])) | (refine regN 0 rfl (by rfl) (by kernel_rfl) (by assumption) ?_; (try simp only [Act.put, List.setIfInBounds_toArray, List.set_cons_zero, List.set_cons_succ]))
  first | (refine regW 1 (v := ?_) rfl (by rfl) (by kernel_rfl) (by kernel_rfl) (by kernel_rfl) (fun _ _ _ h => h) ?_ (by assumption) ?_; rotate_left; (focus (intro w9 hSw; (try dsimp only at hSw); go_simp; (try with_reducible rfl); done)); (try simp only [Act.put, List.setIfInBounds_toArray, List.set_cons_zero, List.set_cons_succ])) | (refine regU 1 rfl (by rfl) (by kernel_rfl) (by kernel_rfl) (by kernel_rfl) (fun _ _ _ h => h) (by assumption) ?_; (try simp only [Act.put, List.setIfInBounds_toArray, List.set_cons_zero, List.set_cons_succ])) | (refine regN 1 rfl (by rfl) (by kernel_rfl) (by assumption) ?_; (try simp only [Act.put, List.setIfInBounds_toArray, List.set_cons_zero, List.set_cons_succ]))
  refine regC 2 rfl (by kernel_rfl) (by rfl) (fun K hK => ?_)
  go_simp
  (with_reducible refine (toModule _ _ _ _ t l _ (ht0.below hS.bel) (hr0.below hS.bel) htm hm hv).mono ?_)
  rintro e w10 ⟨v, u, F10, G10, rfl, hot, hor, hnd, hF, hb⟩; replace hS := St.newMod hS hot hor hnd hF hb; clear hot hor hnd hF hb; obtain ⟨A10, c10, B10, d10, rfl, rfl, _, _⟩ := St.modR hS 0 rfl
  try go_wp2_with fail
  refine hK.out _ _ (⟨hS.cell 2 rfl 0, hS.cell 2 rfl 1, hS.cell 6 rfl 0, hS.cell 6 rfl 1⟩) (fun hHeld => ?_)
  clear hK K
  (try simp only [Act.put, List.setIfInBounds_toArray, List.set_cons_zero, List.set_cons_succ])
  refine regC 3 rfl (by kernel_rfl) (by rfl) (fun K hK => ?_)
  go_simp
  (with_reducible refine (eqModule _ _ _ _ _ _ _ _ t l _ (St.modA hS 3 rfl).1 (St.modA hS 3 rfl).2 (St.modA hS 0 rfl).1 (St.modA hS 0 rfl).2).mono ?_)
  rintro e w11 ⟨rfl, hb⟩; replace hS := hS.step hb; clear hb
  try go_wp2_with fail
  refine hK.out _ _ (⟨hS.cell 2 rfl 0, hS.cell 2 rfl 1, hS.cell 6 rfl 0, hS.cell 6 rfl 1⟩) (fun hHeld => ?_)
  clear hK K
  (try simp only [Act.put, List.setIfInBounds_toArray, List.set_cons_zero, List.set_cons_succ])
  first | (refine regW 4 (v := ?_) rfl (by rfl) (by kernel_rfl) (by kernel_rfl) (by kernel_rfl) (fun _ _ _ h => h) ?_ (by assumption) ?_; rotate_left; (focus (intro w9 hSw; (try dsimp only at hSw); go_simp; (try with_reducible rfl); done)); (try simp only [Act.put, List.setIfInBounds_toArray, List.set_cons_zero, List.set_cons_succ])) | (refine regU 4 rfl (by rfl) (by kernel_rfl) (by kernel_rfl) (by kernel_rfl) (fun _ _ _ h => h) (by assumption) ?_; (try simp only [Act.put, List.setIfInBounds_toArray, List.set_cons_zero, List.set_cons_succ])) | (refine regN 4 rfl (by rfl) (by kernel_rfl) (by assumption) ?_; (try simp only [Act.put, List.setIfInBounds_toArray, List.set_cons_zero, List.set_cons_succ]))
  refine wpAnyH_done (by kernel_rfl) ?_ _
  clear hHeld
  have x_P0 := hS.cell 6 rfl
  have x_b7 := hS.cell 2 rfl
  go_wp2_with fail
  refine (toSiteS_c _ _ p _ (hr1.below hS.bel) hlen1).mono ?_
  intro e w12 hn
  try clear x_P0
  try clear x_b7
  obtain ⟨A12, c12, F12, rfl, hS2⟩ := St.newRowF hS hn
  replace hS := hS2
  clear hn hS2
  have x_P0 := hS.cell 7 rfl
  have x_b7 := hS.cell 3 rfl
  go_wp2_with fail
  refine (eqSiteS_c _ _ _ _ p _ (St.rowA hS 2 rfl) (St.rowA hS 0 rfl)).mono ?_
  rintro e w13 ⟨rfl, hb⟩
  try clear x_P0
  try clear x_b7
  replace hS := hS.step hb
  clear hb
  have x_P0 := hS.cell 7 rfl
  have x_b7 := hS.cell 3 rfl
  go_wp2
  go_ret
  exact ⟨rfl, hS.bel⟩
theorem lawProfileOk (t : List ByteArray) (l : List DFunc) (p : List DSite) (w : World) {A B : Option Addr} {c d : Nat} {A1 : Option Addr} {c1 : Nat} (ht0 : Knd.str.Row w A t.length t) (h_t : t.length ≤ c) (hr0 : kFunc.Row w B l.length l) (h_l : l.length ≤ d) (hr1 : kSite.Row w A1 p.length p) (h_p : p.length ≤ c1) (hT : t.length ≤ maxLen ∧ ∀ y ∈ t, y.size ≤ maxLen) (hL : l.length ≤ maxLen ∧ ∀ y ∈ l, VFunc y) (hV1 : p.length ≤ maxLen ∧ ∀ y ∈ p, VSite y) : Calls Try.prog 5 #[.agg #[.slice A t.length c, .slice B l.length d], .slice A1 p.length c1] w fun e w' => e = .returned (.bool true) ∧ Below w.heap.size w w' := lawxProfileOk t l p w ht0 h_t hr0 h_l hr1 h_p hT hL hV1
end Go.Proofs.Yteoibjacgnmnpaa.Dat
