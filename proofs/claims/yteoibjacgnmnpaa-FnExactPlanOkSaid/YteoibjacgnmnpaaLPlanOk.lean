/- The walk of the law of PlanOk. Written by a program (lawg.py). -/
import Derived.Test.YteoibjacgnmnpaaLawSt
import Derived.Test.YteoibjacgnmnpaaReg
import Derived.Test.YteoibjacgnmnpaaGB
import Derived.Test.YteoibjacgnmnpaaPlanOk
import Derived.Test.YteoibjacgnmnpaaGPlan
namespace Go.Proofs.Yteoibjacgnmnpaa.Dat
open Go Go.RowKit Go.Proofs.Yteoibjacgnmnpaa.Mem
set_option linter.unusedVariables false
set_option linter.unusedSimpArgs false
set_option maxHeartbeats 8000000 in
set_option maxRecDepth 100000 in
theorem lawxPlanOk (t : List ByteArray) (l : List DFunc) (p : DPlan) (w : World) {A B : Option Addr} {c d : Nat} {A1_0 : Option Addr} {c1_0 : Nat} (ht0 : Knd.str.Row w A t.length t) (_ : t.length ≤ c) (hr0 : kFunc.Row w B l.length l) (_ : l.length ≤ d) (hr1_0 : kSpec.Row w A1_0 p.specs.length p.specs) (_ : p.specs.length ≤ c1_0) (hT : t.length ≤ maxLen ∧ ∀ y ∈ t, y.size ≤ maxLen) (hL : l.length ≤ maxLen ∧ ∀ y ∈ l, VFunc y) (hV1 : VPlan p) : Calls Try.prog 7 #[.agg #[.slice A t.length c, .slice B l.length d], .agg #[.slice A1_0 p.specs.length c1_0, .int .i64 p.lay, .bool p.bare]] w fun e w' => e = .returned (.bool true) ∧ Below w.heap.size w w' := by
  by_cases z0 : ((szMod t l : Nat) : Int) ≤ (1048576 : Int)
  rotate_left
  · skip
    have Z0 := szModule A B c d t l (1048576)
    rw [lft_gt (by omega)] at Z0
    have hS := (St.start w).made (.cells #[.slice A t.length c, .slice B l.length d] 44 (0, 0))
    replace hS := hS.madeAt (.cells #[.slice A1_0 p.specs.length c1_0, .int .i64 p.lay, .bool p.bare] 58 (0, 0)) (w.heap.size + 1) (by simp)
    go_enter Try.func7, Try.ntmps7
    go_wp2_with fail
    refine (Z0 _ (ht0.below hS.bel) (hr0.below hS.bel) hT.1 hL.1 hT.2 (fun x h => (hL.2 x h).2.2.1) (by omega) (by omega)).mono ?_
    rintro e w1 ⟨rfl, hb⟩
    try clear x_P0
    try clear x_P1
    replace hS := hS.step hb
    clear hb
    have x_P0 := hS.cell 1 rfl
    have x_P1 := hS.cell 0 rfl
    go_wp2
    go_ret
    exact ⟨rfl, hS.bel⟩
  by_cases z1 : ((msPlan p : Nat) : Int) ≤ (1048576 - ((szMod t l : Nat) : Int) : Int)
  rotate_left
  · skip
    have Z0 := szModule A B c d t l (1048576)
    rw [lft_le z0] at Z0
    have g0 : 0 ≤ 1048576 - ((szMod t l : Nat) : Int) := by omega
    have Z1 := szPlan_c A1_0 c1_0 p (1048576 - ((szMod t l : Nat) : Int))
    rw [lft_gt (by omega)] at Z1
    have hS := (St.start w).made (.cells #[.slice A t.length c, .slice B l.length d] 44 (0, 0))
    replace hS := hS.madeAt (.cells #[.slice A1_0 p.specs.length c1_0, .int .i64 p.lay, .bool p.bare] 58 (0, 0)) (w.heap.size + 1) (by simp)
    go_enter Try.func7, Try.ntmps7
    go_wp2_with fail
    refine (Z0 _ (ht0.below hS.bel) (hr0.below hS.bel) hT.1 hL.1 hT.2 (fun x h => (hL.2 x h).2.2.1) (by omega) (by omega)).mono ?_
    rintro e w1 ⟨rfl, hb⟩
    try clear x_P0
    try clear x_P1
    replace hS := hS.step hb
    clear hb
    have x_P0 := hS.cell 1 rfl
    have x_P1 := hS.cell 0 rfl
    go_wp2_with fail
    refine (Z1 _ (hr1_0.below hS.bel) hV1 (by omega) (by omega)).mono ?_
    rintro e w2 ⟨rfl, hb⟩
    try clear x_P0
    try clear x_P1
    replace hS := hS.step hb
    clear hb
    have x_P0 := hS.cell 1 rfl
    have x_P1 := hS.cell 0 rfl
    go_wp2
    go_ret
    exact ⟨rfl, hS.bel⟩
  have Z0 := szModule A B c d t l (1048576)
  rw [lft_le z0] at Z0
  have g0 : 0 ≤ 1048576 - ((szMod t l : Nat) : Int) := by omega
  have Z1 := szPlan_c A1_0 c1_0 p (1048576 - ((szMod t l : Nat) : Int))
  rw [lft_le z1] at Z1
  have g1 : 0 ≤ 1048576 - ((szMod t l : Nat) : Int) - ((msPlan p : Nat) : Int) := by omega
  obtain ⟨htm, hm, hv⟩ := szMod_small z0
  have hv2 : ∀ x ∈ l, x.code.length ≤ 1048576 ∧ -9223372036854775808 ≤ x.locals ∧ x.locals ≤ 9223372036854775807 := fun x h => ⟨hv x h, wf_lo (hL.2 x h).2.1, wf_hi (hL.2 x h).2.1⟩
  have hlen1 := MPlan_of (x := p) (by omega)
  have hlenp : p.specs.length ≤ 1048576 := hlen1
  have hS := (St.start w).made (.cells #[.slice A t.length c, .slice B l.length d] 44 (0, 0))
  replace hS := hS.madeAt (.cells #[.slice A1_0 p.specs.length c1_0, .int .i64 p.lay, .bool p.bare] 58 (0, 0)) (w.heap.size + 1) (by simp)
  go_enter Try.func7, Try.ntmps7
  go_wp2_with fail
  refine (Z0 _ (ht0.below hS.bel) (hr0.below hS.bel) hT.1 hL.1 hT.2 (fun x h => (hL.2 x h).2.2.1) (by omega) (by omega)).mono ?_
  rintro e w1 ⟨rfl, hb⟩
  try clear x_P0
  try clear x_P1
  replace hS := hS.step hb
  clear hb
  have x_P0 := hS.cell 1 rfl
  have x_P1 := hS.cell 0 rfl
  go_wp2_with fail
  refine (Z1 _ (hr1_0.below hS.bel) hV1 (by omega) (by omega)).mono ?_
  rintro e w2 ⟨rfl, hb⟩
  try clear x_P0
  try clear x_P1
  replace hS := hS.step hb
  clear hb
  have x_P0 := hS.cell 1 rfl
  have x_P1 := hS.cell 0 rfl
  go_wp2
  try clear x_P0
  try clear x_P1
  replace hS := hS.drew
  refine wp_region_held_drew (S := (fun w' => w'.cell? ⟨w.heap.size, 0, none⟩ = some (.slice A t.length c) ∧ w'.cell? ⟨w.heap.size, 1, none⟩ = some (.slice B l.length d) ∧ w'.cell? ⟨w.heap.size + 1, 0, none⟩ = some (.slice A1_0 p.specs.length c1_0) ∧ w'.cell? ⟨w.heap.size + 1, 1, none⟩ = some (.int .i64 p.lay) ∧ w'.cell? ⟨w.heap.size + 1, 2, none⟩ = some (.bool p.bare))) (by kernel_rfl) (⟨hS.cell 1 rfl 0, hS.cell 1 rfl 1, hS.cell 0 rfl 0, hS.cell 0 rfl 1, hS.cell 0 rfl 2⟩) (fun hHeld => ?_)
  first | (refine regW 0 (v := ?_) rfl (by rfl) (by kernel_rfl) (by kernel_rfl) (by kernel_rfl) (fun _ _ _ h => h) ?_ (by assumption) ?_; rotate_left; (focus (intro w9 hSw; (try dsimp only at hSw); go_simp; (try with_reducible rfl); done)); (try simp only [Act.put, List.setIfInBounds_toArray, List.set_cons_zero, List.set_cons_succ])) | (refine regU 0 rfl (by rfl) (by kernel_rfl) (by kernel_rfl) (by kernel_rfl) (fun _ _ _ h => h) (by assumption) ?_; (try simp only [Act.put, List.setIfInBounds_toArray, List.set_cons_zero, List.set_cons_succ])) | (refine regN 0 rfl (by rfl) (by kernel_rfl) (by assumption) ?_; (try simp only [Act.put, List.setIfInBounds_toArray, List.set_cons_zero, List.set_cons_succ]))
  first | (refine regW 2 (v := ?_) rfl (by rfl) (by kernel_rfl) (by kernel_rfl) (by kernel_rfl) (fun _ _ _ h => h) ?_ (by assumption) ?_; rotate_left; (focus (intro w9 hSw; (try dsimp only at hSw); go_simp; (try with_reducible rfl); done)); (try simp only [Act.put, List.setIfInBounds_toArray, List.set_cons_zero, List.set_cons_succ])) | (refine regU 2 rfl (by rfl) (by kernel_rfl) (by kernel_rfl) (by kernel_rfl) (fun _ _ _ h => h) (by assumption) ?_; (try simp only [Act.put, List.setIfInBounds_toArray, List.set_cons_zero, List.set_cons_succ])) | (refine regN 2 rfl (by rfl) (by kernel_rfl) (by assumption) ?_; (try simp only [Act.put, List.setIfInBounds_toArray, List.set_cons_zero, List.set_cons_succ]))
  refine regC 1 rfl (by kernel_rfl) (by rfl) (fun K hK => ?_)
  go_simp
  (with_reducible refine (toModule _ _ _ _ t l _ (ht0.below hS.bel) (hr0.below hS.bel) htm hm hv).mono ?_)
  rintro e w3 ⟨v, u, F3, G3, rfl, hot, hor, hnd, hF, hb⟩; replace hS := St.newMod hS hot hor hnd hF hb; clear hot hor hnd hF hb; obtain ⟨A3, c3, B3, d3, rfl, rfl, _, _⟩ := St.modR hS 0 rfl
  try go_wp2_with fail
  refine hK.out _ _ (⟨hS.cell 2 rfl 0, hS.cell 2 rfl 1, hS.cell 1 rfl 0, hS.cell 1 rfl 1, hS.cell 1 rfl 2⟩) (fun hHeld => ?_)
  clear hK K
  (try simp only [Act.put, List.setIfInBounds_toArray, List.set_cons_zero, List.set_cons_succ])
  refine regC 3 rfl (by kernel_rfl) (by rfl) (fun K hK => ?_)
  go_simp
  (with_reducible refine (toPlan_c _ _ p _ (hr1_0.below hS.bel) hlen1).mono ?_)
  rintro e w4 ⟨v4_0, F4_0, rfl, hSx⟩; replace hS := hS.join hSx; clear hSx; obtain ⟨A4_0, c4_0, rfl, _, _⟩ := hS.row 0 rfl
  try go_wp2_with fail
  refine hK.out _ _ (⟨hS.cell 3 rfl 0, hS.cell 3 rfl 1, hS.cell 2 rfl 0, hS.cell 2 rfl 1, hS.cell 2 rfl 2⟩) (fun hHeld => ?_)
  clear hK K
  (try simp only [Act.put, List.setIfInBounds_toArray, List.set_cons_zero, List.set_cons_succ])
  refine regC 4 rfl (by kernel_rfl) (by rfl) (fun K hK => ?_)
  go_simp
  (with_reducible refine (planOk3 _ _ _ _ _ _ t l p _ ⟨(St.modA hS 1 rfl).1, (St.modA hS 1 rfl).2, htm, hm, hT.2, hv2⟩ (St.rowA hS 0 rfl) hlenp).mono ?_)
  rintro e w5 ⟨rfl, hb⟩; replace hS := hS.step hb; clear hb
  try go_wp2_with fail
  refine hK.out _ _ (⟨hS.cell 3 rfl 0, hS.cell 3 rfl 1, hS.cell 2 rfl 0, hS.cell 2 rfl 1, hS.cell 2 rfl 2⟩) (fun hHeld => ?_)
  clear hK K
  (try simp only [Act.put, List.setIfInBounds_toArray, List.set_cons_zero, List.set_cons_succ])
  first | (refine regW 5 (v := ?_) rfl (by rfl) (by kernel_rfl) (by kernel_rfl) (by kernel_rfl) (fun _ _ _ h => h) ?_ (by assumption) ?_; rotate_left; (focus (intro w9 hSw; (try dsimp only at hSw); go_simp; (try with_reducible rfl); done)); (try simp only [Act.put, List.setIfInBounds_toArray, List.set_cons_zero, List.set_cons_succ])) | (refine regU 5 rfl (by rfl) (by kernel_rfl) (by kernel_rfl) (by kernel_rfl) (fun _ _ _ h => h) (by assumption) ?_; (try simp only [Act.put, List.setIfInBounds_toArray, List.set_cons_zero, List.set_cons_succ])) | (refine regN 5 rfl (by rfl) (by kernel_rfl) (by assumption) ?_; (try simp only [Act.put, List.setIfInBounds_toArray, List.set_cons_zero, List.set_cons_succ]))
  refine wpAnyH_done (by kernel_rfl) ?_ _
  clear hHeld
  have x_P0 := hS.cell 3 rfl
  have x_P1 := hS.cell 2 rfl
  go_wp2_with fail
  refine (toModule _ _ _ _ t l _ (ht0.below hS.bel) (hr0.below hS.bel) htm hm hv).mono ?_
  rintro e w6 ⟨v, u, F6, G6, rfl, hot, hor, hnd, hF, hb⟩
  try clear x_P0
  try clear x_P1
  replace hS := St.newMod hS hot hor hnd hF hb
  clear hot hor hnd hF hb
  obtain ⟨A6, c6, B6, d6, rfl, rfl, _, _⟩ := St.modR hS 0 rfl
  have x_P0 := hS.cell 4 rfl
  have x_P1 := hS.cell 3 rfl
  try clear x_P0
  try clear x_P1
  try clear x_b7
  replace hS := hS.made (.cells #[.slice A6 t.length c6, .slice B6 l.length d6] 34 (0, 0))
  have x_P0 := hS.cell 5 rfl
  have x_P1 := hS.cell 4 rfl
  have x_b7 := hS.cell 0 rfl
  go_wp2_with fail
  refine (toPlan_c _ _ p _ (hr1_0.below hS.bel) hlen1).mono ?_
  rintro e w8 ⟨v8_0, F8_0, rfl, hSx⟩
  try clear x_P0
  try clear x_P1
  try clear x_b7
  replace hS := hS.join hSx
  clear hSx
  obtain ⟨A8_0, c8_0, rfl, _, _⟩ := hS.row 0 rfl
  have x_P0 := hS.cell 6 rfl
  have x_P1 := hS.cell 5 rfl
  have x_b7 := hS.cell 1 rfl
  try clear x_P0
  try clear x_P1
  try clear x_b7
  try clear x_b9
  replace hS := hS.made (.cells #[.slice A8_0 p.specs.length c8_0, .int .i64 p.lay, .bool p.bare] 63 (0, 0))
  have x_P0 := hS.cell 7 rfl
  have x_P1 := hS.cell 6 rfl
  have x_b7 := hS.cell 2 rfl
  have x_b9 := hS.cell 0 rfl
  go_wp2_with fail
  refine (planOkI _ _ _ _ _ _ t l p _ ⟨(St.modA hS 3 rfl).1, (St.modA hS 3 rfl).2, htm, hm, hT.2, hv2⟩ (St.rowA hS 1 rfl) hlenp).mono ?_
  rintro e w10 ⟨rfl, hb⟩
  try clear x_P0
  try clear x_P1
  try clear x_b7
  try clear x_b9
  replace hS := hS.step hb
  clear hb
  have x_P0 := hS.cell 7 rfl
  have x_P1 := hS.cell 6 rfl
  have x_b7 := hS.cell 2 rfl
  have x_b9 := hS.cell 0 rfl
  go_wp2
  try clear x_P0
  try clear x_P1
  try clear x_b7
  try clear x_b9
  replace hS := hS.drew
  refine wp_region_held_drew (S := (fun w' => w'.cell? ⟨w6.heap.size, 0, none⟩ = some (.slice A6 t.length c6) ∧ w'.cell? ⟨w6.heap.size, 1, none⟩ = some (.slice B6 l.length d6) ∧ w'.cell? ⟨w.heap.size, 0, none⟩ = some (.slice A t.length c) ∧ w'.cell? ⟨w.heap.size, 1, none⟩ = some (.slice B l.length d))) (by kernel_rfl) (⟨hS.cell 2 rfl 0, hS.cell 2 rfl 1, hS.cell 7 rfl 0, hS.cell 7 rfl 1⟩) (fun hHeld => ?_)
  first | (refine regW 0 (v := ?_) rfl (by rfl) (by kernel_rfl) (by kernel_rfl) (by kernel_rfl) (fun _ _ _ h => h) ?_ (by assumption) ?_; rotate_left; (focus (intro w9 hSw; (try dsimp only at hSw); go_simp; (try with_reducible rfl); done)); (try simp only [Act.put, List.setIfInBounds_toArray, List.set_cons_zero, List.set_cons_succ])) | (refine regU 0 rfl (by rfl) (by kernel_rfl) (by kernel_rfl) (by kernel_rfl) (fun _ _ _ h => h) (by assumption) ?_; (try simp only [Act.put, List.setIfInBounds_toArray, List.set_cons_zero, List.set_cons_succ])) | (refine regN 0 rfl (by rfl) (by kernel_rfl) (by assumption) ?_; (try simp only [Act.put, List.setIfInBounds_toArray, List.set_cons_zero, List.set_cons_succ]))
  first | (refine regW 1 (v := ?_) rfl (by rfl) (by kernel_rfl) (by kernel_rfl) (by kernel_rfl) (fun _ _ _ h => h) ?_ (by assumption) ?_; rotate_left; (focus (intro w9 hSw; (try dsimp only at hSw); go_simp; (try with_reducible rfl); done)); (try simp only [Act.put, List.setIfInBounds_toArray, List.set_cons_zero, List.set_cons_succ])) | (refine regU 1 rfl (by rfl) (by kernel_rfl) (by kernel_rfl) (by kernel_rfl) (fun _ _ _ h => h) (by assumption) ?_; (try simp only [Act.put, List.setIfInBounds_toArray, List.set_cons_zero, List.set_cons_succ])) | (refine regN 1 rfl (by rfl) (by kernel_rfl) (by assumption) ?_; (try simp only [Act.put, List.setIfInBounds_toArray, List.set_cons_zero, List.set_cons_succ]))
  refine regC 2 rfl (by kernel_rfl) (by rfl) (fun K hK => ?_)
  go_simp
  (with_reducible refine (toModule _ _ _ _ t l _ (ht0.below hS.bel) (hr0.below hS.bel) htm hm hv).mono ?_)
  rintro e w11 ⟨v, u, F11, G11, rfl, hot, hor, hnd, hF, hb⟩; replace hS := St.newMod hS hot hor hnd hF hb; clear hot hor hnd hF hb; obtain ⟨A11, c11, B11, d11, rfl, rfl, _, _⟩ := St.modR hS 0 rfl
  try go_wp2_with fail
  refine hK.out _ _ (⟨hS.cell 3 rfl 0, hS.cell 3 rfl 1, hS.cell 8 rfl 0, hS.cell 8 rfl 1⟩) (fun hHeld => ?_)
  clear hK K
  (try simp only [Act.put, List.setIfInBounds_toArray, List.set_cons_zero, List.set_cons_succ])
  refine regC 3 rfl (by kernel_rfl) (by rfl) (fun K hK => ?_)
  go_simp
  (with_reducible refine (eqModule _ _ _ _ _ _ _ _ t l _ (St.modA hS 4 rfl).1 (St.modA hS 4 rfl).2 (St.modA hS 0 rfl).1 (St.modA hS 0 rfl).2).mono ?_)
  rintro e w12 ⟨rfl, hb⟩; replace hS := hS.step hb; clear hb
  try go_wp2_with fail
  refine hK.out _ _ (⟨hS.cell 3 rfl 0, hS.cell 3 rfl 1, hS.cell 8 rfl 0, hS.cell 8 rfl 1⟩) (fun hHeld => ?_)
  clear hK K
  (try simp only [Act.put, List.setIfInBounds_toArray, List.set_cons_zero, List.set_cons_succ])
  first | (refine regW 4 (v := ?_) rfl (by rfl) (by kernel_rfl) (by kernel_rfl) (by kernel_rfl) (fun _ _ _ h => h) ?_ (by assumption) ?_; rotate_left; (focus (intro w9 hSw; (try dsimp only at hSw); go_simp; (try with_reducible rfl); done)); (try simp only [Act.put, List.setIfInBounds_toArray, List.set_cons_zero, List.set_cons_succ])) | (refine regU 4 rfl (by rfl) (by kernel_rfl) (by kernel_rfl) (by kernel_rfl) (fun _ _ _ h => h) (by assumption) ?_; (try simp only [Act.put, List.setIfInBounds_toArray, List.set_cons_zero, List.set_cons_succ])) | (refine regN 4 rfl (by rfl) (by kernel_rfl) (by assumption) ?_; (try simp only [Act.put, List.setIfInBounds_toArray, List.set_cons_zero, List.set_cons_succ]))
  refine wpAnyH_done (by kernel_rfl) ?_ _
  clear hHeld
  have x_P0 := hS.cell 8 rfl
  have x_P1 := hS.cell 7 rfl
  have x_b7 := hS.cell 3 rfl
  have x_b9 := hS.cell 1 rfl
  go_wp2
  try clear x_P0
  try clear x_P1
  try clear x_b7
  try clear x_b9
  replace hS := hS.drew
  refine wp_region_held_drew (S := (fun w' => w'.cell? ⟨w8.heap.size, 0, none⟩ = some (.slice A8_0 p.specs.length c8_0) ∧ w'.cell? ⟨w8.heap.size, 1, none⟩ = some (.int .i64 p.lay) ∧ w'.cell? ⟨w8.heap.size, 2, none⟩ = some (.bool p.bare) ∧ w'.cell? ⟨w.heap.size + 1, 0, none⟩ = some (.slice A1_0 p.specs.length c1_0) ∧ w'.cell? ⟨w.heap.size + 1, 1, none⟩ = some (.int .i64 p.lay) ∧ w'.cell? ⟨w.heap.size + 1, 2, none⟩ = some (.bool p.bare))) (by kernel_rfl) (⟨hS.cell 1 rfl 0, hS.cell 1 rfl 1, hS.cell 1 rfl 2, hS.cell 7 rfl 0, hS.cell 7 rfl 1, hS.cell 7 rfl 2⟩) (fun hHeld => ?_)
  first | (refine regW 0 (v := ?_) rfl (by rfl) (by kernel_rfl) (by kernel_rfl) (by kernel_rfl) (fun _ _ _ h => h) ?_ (by assumption) ?_; rotate_left; (focus (intro w9 hSw; (try dsimp only at hSw); go_simp; (try with_reducible rfl); done)); (try simp only [Act.put, List.setIfInBounds_toArray, List.set_cons_zero, List.set_cons_succ])) | (refine regU 0 rfl (by rfl) (by kernel_rfl) (by kernel_rfl) (by kernel_rfl) (fun _ _ _ h => h) (by assumption) ?_; (try simp only [Act.put, List.setIfInBounds_toArray, List.set_cons_zero, List.set_cons_succ])) | (refine regN 0 rfl (by rfl) (by kernel_rfl) (by assumption) ?_; (try simp only [Act.put, List.setIfInBounds_toArray, List.set_cons_zero, List.set_cons_succ]))
  first | (refine regW 1 (v := ?_) rfl (by rfl) (by kernel_rfl) (by kernel_rfl) (by kernel_rfl) (fun _ _ _ h => h) ?_ (by assumption) ?_; rotate_left; (focus (intro w9 hSw; (try dsimp only at hSw); go_simp; (try with_reducible rfl); done)); (try simp only [Act.put, List.setIfInBounds_toArray, List.set_cons_zero, List.set_cons_succ])) | (refine regU 1 rfl (by rfl) (by kernel_rfl) (by kernel_rfl) (by kernel_rfl) (fun _ _ _ h => h) (by assumption) ?_; (try simp only [Act.put, List.setIfInBounds_toArray, List.set_cons_zero, List.set_cons_succ])) | (refine regN 1 rfl (by rfl) (by kernel_rfl) (by assumption) ?_; (try simp only [Act.put, List.setIfInBounds_toArray, List.set_cons_zero, List.set_cons_succ]))
  refine regC 2 rfl (by kernel_rfl) (by rfl) (fun K hK => ?_)
  go_simp
  (with_reducible refine (toPlan_c _ _ p _ (hr1_0.below hS.bel) hlen1).mono ?_)
  rintro e w13 ⟨v13_0, F13_0, rfl, hSx⟩; replace hS := hS.join hSx; clear hSx; obtain ⟨A13_0, c13_0, rfl, _, _⟩ := hS.row 0 rfl
  try go_wp2_with fail
  refine hK.out _ _ (⟨hS.cell 2 rfl 0, hS.cell 2 rfl 1, hS.cell 2 rfl 2, hS.cell 8 rfl 0, hS.cell 8 rfl 1, hS.cell 8 rfl 2⟩) (fun hHeld => ?_)
  clear hK K
  (try simp only [Act.put, List.setIfInBounds_toArray, List.set_cons_zero, List.set_cons_succ])
  refine regC 3 rfl (by kernel_rfl) (by rfl) (fun K hK => ?_)
  go_simp
  (with_reducible refine (eqPlan_c _ _ _ _ p _ (St.rowA hS 3 rfl) (St.rowA hS 0 rfl)).mono ?_)
  rintro e w14 ⟨rfl, hb⟩; replace hS := hS.step hb; clear hb
  try go_wp2_with fail
  refine hK.out _ _ (⟨hS.cell 2 rfl 0, hS.cell 2 rfl 1, hS.cell 2 rfl 2, hS.cell 8 rfl 0, hS.cell 8 rfl 1, hS.cell 8 rfl 2⟩) (fun hHeld => ?_)
  clear hK K
  (try simp only [Act.put, List.setIfInBounds_toArray, List.set_cons_zero, List.set_cons_succ])
  first | (refine regW 4 (v := ?_) rfl (by rfl) (by kernel_rfl) (by kernel_rfl) (by kernel_rfl) (fun _ _ _ h => h) ?_ (by assumption) ?_; rotate_left; (focus (intro w9 hSw; (try dsimp only at hSw); go_simp; (try with_reducible rfl); done)); (try simp only [Act.put, List.setIfInBounds_toArray, List.set_cons_zero, List.set_cons_succ])) | (refine regU 4 rfl (by rfl) (by kernel_rfl) (by kernel_rfl) (by kernel_rfl) (fun _ _ _ h => h) (by assumption) ?_; (try simp only [Act.put, List.setIfInBounds_toArray, List.set_cons_zero, List.set_cons_succ])) | (refine regN 4 rfl (by rfl) (by kernel_rfl) (by assumption) ?_; (try simp only [Act.put, List.setIfInBounds_toArray, List.set_cons_zero, List.set_cons_succ]))
  refine wpAnyH_done (by kernel_rfl) ?_ _
  clear hHeld
  have x_P0 := hS.cell 9 rfl
  have x_P1 := hS.cell 8 rfl
  have x_b7 := hS.cell 4 rfl
  have x_b9 := hS.cell 2 rfl
  go_wp2
  go_ret
  exact ⟨rfl, hS.bel⟩
theorem lawPlanOk (t : List ByteArray) (l : List DFunc) (p_0 : List DSpec) (p_1 : Int) (p_2 : Bool) (w : World) {A B : Option Addr} {c d : Nat} {A1_0 : Option Addr} {c1_0 : Nat} (ht0 : Knd.str.Row w A t.length t) (h_t : t.length ≤ c) (hr0 : kFunc.Row w B l.length l) (h_l : l.length ≤ d) (hr1_0 : kSpec.Row w A1_0 p_0.length p_0) (h_1_0 : p_0.length ≤ c1_0) (hT : t.length ≤ maxLen ∧ ∀ y ∈ t, y.size ≤ maxLen) (hL : l.length ≤ maxLen ∧ ∀ y ∈ l, VFunc y) (b1_0 : p_0.length ≤ maxLen ∧ ∀ y ∈ p_0, VSpec y) (b1_1 : (Lit.int .i64 p_1).wf = true) : Calls Try.prog 7 #[.agg #[.slice A t.length c, .slice B l.length d], .agg #[.slice A1_0 p_0.length c1_0, .int .i64 p_1, .bool p_2]] w fun e w' => e = .returned (.bool true) ∧ Below w.heap.size w w' := lawxPlanOk t l (⟨p_0, p_1, p_2⟩ : DPlan) w ht0 h_t hr0 h_l hr1_0 h_1_0 hT hL ⟨b1_0, b1_1, trivial⟩
end Go.Proofs.Yteoibjacgnmnpaa.Dat
