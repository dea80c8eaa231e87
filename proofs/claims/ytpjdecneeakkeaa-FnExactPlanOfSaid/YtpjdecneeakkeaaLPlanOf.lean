/- The walk of the law of PlanOf. Written by a program (lawg.py). -/
import Derived.Test.YtpjdecneeakkeaaK3
import Derived.Test.YtpjdecneeakkeaaK4
import Derived.Test.YtpjdecneeakkeaaPlanOfI
import Derived.Test.YtpjdecneeakkeaaPlanOf9b
namespace Go.Proofs.Ytpjdecneeakkeaa.Dat
open Go Go.RowKit Go.Proofs.Ytpjdecneeakkeaa.Mem
set_option linter.unusedVariables false
set_option linter.unusedSimpArgs false
set_option maxHeartbeats 8000000 in
set_option maxRecDepth 100000 in
theorem lawxPlanOf (t : List ByteArray) (l : List DFunc) (sites : List DSite) (black : List DSpec) (lay : Int) (bare : Bool) (w : World) {A B : Option Addr} {c d : Nat} {A1 : Option Addr} {c1 : Nat} {A2 : Option Addr} {c2 : Nat} (ht0 : Knd.str.Row w A t.length t) (_ : t.length ≤ c) (hr0 : kFunc.Row w B l.length l) (_ : l.length ≤ d) (hr1 : kSite.Row w A1 sites.length sites) (_ : sites.length ≤ c1) (hr2 : kSpec.Row w A2 black.length black) (_ : black.length ≤ c2) (hT : t.length ≤ maxLen ∧ ∀ y ∈ t, y.size ≤ maxLen) (hL : l.length ≤ maxLen ∧ ∀ y ∈ l, VFunc y) (hV1 : sites.length ≤ maxLen ∧ ∀ y ∈ sites, VSite y) (hV2 : black.length ≤ maxLen ∧ ∀ y ∈ black, VSpec y) (hw3 : (Lit.int .i64 lay).wf = true) : Calls Try.prog 8 #[.agg #[.slice A t.length c, .slice B l.length d], .slice A1 sites.length c1, .slice A2 black.length c2, .int .i64 lay, .bool bare] w fun e w' => e = .returned (.bool true) ∧ Below w.heap.size w w' := by
  by_cases z0 : ((szMod t l : Nat) : Int) ≤ (1048576 : Int)
  rotate_left
  · skip
    have Z0 := szModule A B c d t l (1048576)
    rw [lft_gt (by omega)] at Z0
    have hS := (St.start w).made (.cells #[.slice A t.length c, .slice B l.length d] 44 (0, 0))
    go_enter Try.func8, Try.ntmps8
    go_wp2_with fail
    refine (Z0 _ (ht0.below hS.bel) (hr0.below hS.bel) hT.1 hL.1 hT.2 (fun x h => (hL.2 x h).2.2.1) (by omega) (by omega)).mono ?_
    rintro e w1 ⟨rfl, hb⟩
    try clear x_P0
    replace hS := hS.step hb
    clear hb
    have x_P0 := hS.cell 0 rfl
    go_wp2
    go_ret
    exact ⟨rfl, hS.bel⟩
  by_cases z1 : ((sites.length : Nat) : Int) ≤ (1048576 - ((szMod t l : Nat) : Int) : Int)
  rotate_left
  · skip
    have Z0 := szModule A B c d t l (1048576)
    rw [lft_le z0] at Z0
    have g0 : 0 ≤ 1048576 - ((szMod t l : Nat) : Int) := by omega
    have Z1 := szSiteS_c A1 c1 sites (1048576 - ((szMod t l : Nat) : Int))
    rw [lft_gt (by omega)] at Z1
    have hS := (St.start w).made (.cells #[.slice A t.length c, .slice B l.length d] 44 (0, 0))
    go_enter Try.func8, Try.ntmps8
    go_wp2_with fail
    refine (Z0 _ (ht0.below hS.bel) (hr0.below hS.bel) hT.1 hL.1 hT.2 (fun x h => (hL.2 x h).2.2.1) (by omega) (by omega)).mono ?_
    rintro e w1 ⟨rfl, hb⟩
    try clear x_P0
    replace hS := hS.step hb
    clear hb
    have x_P0 := hS.cell 0 rfl
    go_wp2_with fail
    refine (Z1 _ (hr1.below hS.bel) hV1.1 hV1.2 (by omega) (by omega)).mono ?_
    rintro e w2 ⟨rfl, hb⟩
    try clear x_P0
    replace hS := hS.step hb
    clear hb
    have x_P0 := hS.cell 0 rfl
    go_wp2
    go_ret
    exact ⟨rfl, hS.bel⟩
  by_cases z2 : ((black.length : Nat) : Int) ≤ (1048576 - ((szMod t l : Nat) : Int) - ((sites.length : Nat) : Int) : Int)
  rotate_left
  · skip
    have Z0 := szModule A B c d t l (1048576)
    rw [lft_le z0] at Z0
    have g0 : 0 ≤ 1048576 - ((szMod t l : Nat) : Int) := by omega
    have Z1 := szSiteS_c A1 c1 sites (1048576 - ((szMod t l : Nat) : Int))
    rw [lft_le z1] at Z1
    have g1 : 0 ≤ 1048576 - ((szMod t l : Nat) : Int) - ((sites.length : Nat) : Int) := by omega
    have Z2 := szSpecS_c A2 c2 black (1048576 - ((szMod t l : Nat) : Int) - ((sites.length : Nat) : Int))
    rw [lft_gt (by omega)] at Z2
    have hS := (St.start w).made (.cells #[.slice A t.length c, .slice B l.length d] 44 (0, 0))
    go_enter Try.func8, Try.ntmps8
    go_wp2_with fail
    refine (Z0 _ (ht0.below hS.bel) (hr0.below hS.bel) hT.1 hL.1 hT.2 (fun x h => (hL.2 x h).2.2.1) (by omega) (by omega)).mono ?_
    rintro e w1 ⟨rfl, hb⟩
    try clear x_P0
    replace hS := hS.step hb
    clear hb
    have x_P0 := hS.cell 0 rfl
    go_wp2_with fail
    refine (Z1 _ (hr1.below hS.bel) hV1.1 hV1.2 (by omega) (by omega)).mono ?_
    rintro e w2 ⟨rfl, hb⟩
    try clear x_P0
    replace hS := hS.step hb
    clear hb
    have x_P0 := hS.cell 0 rfl
    go_wp2_with fail
    refine (Z2 _ (hr2.below hS.bel) hV2.1 hV2.2 (by omega) (by omega)).mono ?_
    rintro e w3 ⟨rfl, hb⟩
    try clear x_P0
    replace hS := hS.step hb
    clear hb
    have x_P0 := hS.cell 0 rfl
    go_wp2
    go_ret
    exact ⟨rfl, hS.bel⟩
  have Z0 := szModule A B c d t l (1048576)
  rw [lft_le z0] at Z0
  have g0 : 0 ≤ 1048576 - ((szMod t l : Nat) : Int) := by omega
  have Z1 := szSiteS_c A1 c1 sites (1048576 - ((szMod t l : Nat) : Int))
  rw [lft_le z1] at Z1
  have g1 : 0 ≤ 1048576 - ((szMod t l : Nat) : Int) - ((sites.length : Nat) : Int) := by omega
  have Z2 := szSpecS_c A2 c2 black (1048576 - ((szMod t l : Nat) : Int) - ((sites.length : Nat) : Int))
  rw [lft_le z2] at Z2
  have g2 : 0 ≤ 1048576 - ((szMod t l : Nat) : Int) - ((sites.length : Nat) : Int) - ((black.length : Nat) : Int) := by omega
  obtain ⟨htm, hm, hv⟩ := szMod_small z0
  have hv2 : ∀ x ∈ l, x.code.length ≤ 1048576 ∧ -9223372036854775808 ≤ x.locals ∧ x.locals ≤ 9223372036854775807 := fun x h => ⟨hv x h, wf_lo (hL.2 x h).2.1, wf_hi (hL.2 x h).2.1⟩
  have hlen1 : sites.length ≤ 1048576 := by omega
  have hlen2 : black.length ≤ 1048576 := by omega
  have hct0 := ctFunc_small l hm hv
  have hct1 := ctLeSite sites
  have hct2 := ctLeSpec black
  have hsmall0 := planOfV_ms t l sites black lay bare hlen1
  obtain ⟨X, hX⟩ : ∃ X : DPlan, planOfV t l sites black lay bare = X := ⟨_, rfl⟩
  rw [hX] at hsmall0
  have HX := Lib.hid hX
  clear hX
  have hsmall := MPlan_of hsmall0
  have hmsX : msPlan X = X.specs.length := rfl
  rw [hmsX] at hsmall0
  have hcX0 := ctLeSpec X.specs
  have hS := (St.start w).made (.cells #[.slice A t.length c, .slice B l.length d] 44 (0, 0))
  go_enter Try.func8, Try.ntmps8
  go_wp2_with fail
  refine (Z0 _ (ht0.below hS.bel) (hr0.below hS.bel) hT.1 hL.1 hT.2 (fun x h => (hL.2 x h).2.2.1) (by omega) (by omega)).mono ?_
  rintro e w1 ⟨rfl, hb⟩
  try clear x_P0
  replace hS := hS.step hb
  clear hb
  have x_P0 := hS.cell 0 rfl
  go_wp2_with fail
  refine (Z1 _ (hr1.below hS.bel) hV1.1 hV1.2 (by omega) (by omega)).mono ?_
  rintro e w2 ⟨rfl, hb⟩
  try clear x_P0
  replace hS := hS.step hb
  clear hb
  have x_P0 := hS.cell 0 rfl
  go_wp2_with fail
  refine (Z2 _ (hr2.below hS.bel) hV2.1 hV2.2 (by omega) (by omega)).mono ?_
  rintro e w3 ⟨rfl, hb⟩
  try clear x_P0
  replace hS := hS.step hb
  clear hb
  have x_P0 := hS.cell 0 rfl
  go_wp2_with fail
  refine (toModule _ _ _ _ t l _ (ht0.below hS.bel) (hr0.below hS.bel) htm hm hv).mono ?_
  rintro e w4 ⟨v, u, F4, G4, rfl, hot, hor, hnd, hF, hb⟩
  try clear x_P0
  replace hS := St.newMod hS hot hor hnd hF hb
  clear hot hor hnd hF hb
  obtain ⟨A4, c4, B4, d4, rfl, rfl, _, _⟩ := St.modR hS 0 rfl
  have x_P0 := hS.cell 1 rfl
  go_wp2_with fail
  refine (toSiteS_c _ _ sites _ (hr1.below hS.bel) hlen1).mono ?_
  intro e w5 hn
  try clear x_P0
  obtain ⟨A5, c5, F5, rfl, hS2⟩ := St.newRowF hS hn
  replace hS := hS2
  clear hn hS2
  have x_P0 := hS.cell 2 rfl
  go_wp2_with fail
  refine (toSpecS_c _ _ black _ (hr2.below hS.bel) hlen2).mono ?_
  intro e w6 hn
  try clear x_P0
  obtain ⟨A6, c6, F6, rfl, hS2⟩ := St.newRowF hS hn
  replace hS := hS2
  clear hn hS2
  have x_P0 := hS.cell 3 rfl
  go_wp2_with fail
  refine (planOf9 _ _ _ _ _ _ _ _ t l sites black lay bare _ ⟨(St.modA hS 2 rfl).1, (St.modA hS 2 rfl).2, htm, hm, hT.2, hv2⟩ (St.rowA hS 1 rfl) hlen1 (St.rowA hS 0 rfl) hlen2 HX.out).mono ?_
  rintro e w7 ⟨v7_0, F7_0, rfl, hSx⟩
  try clear x_P0
  replace hS := hS.join hSx
  clear hSx
  obtain ⟨A7_0, c7_0, rfl, _, _⟩ := hS.row 0 rfl
  have x_P0 := hS.cell 4 rfl
  try clear x_P0
  try clear x_b8
  replace hS := hS.made (.cells #[.slice A7_0 X.specs.length c7_0, .int .i64 X.lay, .bool X.bare] 70 (0, 0))
  have x_P0 := hS.cell 5 rfl
  have x_b8 := hS.cell 0 rfl
  go_wp2_with fail
  refine (toModule _ _ _ _ t l _ (ht0.below hS.bel) (hr0.below hS.bel) htm hm hv).mono ?_
  rintro e w9 ⟨v, u, F9, G9, rfl, hot, hor, hnd, hF, hb⟩
  try clear x_P0
  try clear x_b8
  replace hS := St.newMod hS hot hor hnd hF hb
  clear hot hor hnd hF hb
  obtain ⟨A9, c9, B9, d9, rfl, rfl, _, _⟩ := St.modR hS 0 rfl
  have x_P0 := hS.cell 6 rfl
  have x_b8 := hS.cell 1 rfl
  try clear x_P0
  try clear x_b8
  try clear x_b10
  replace hS := hS.made (.cells #[.slice A9 t.length c9, .slice B9 l.length d9] 34 (0, 0))
  have x_P0 := hS.cell 7 rfl
  have x_b8 := hS.cell 2 rfl
  have x_b10 := hS.cell 0 rfl
  go_wp2_with fail
  refine (toSiteS_c _ _ sites _ (hr1.below hS.bel) hlen1).mono ?_
  intro e w11 hn
  try clear x_P0
  try clear x_b8
  try clear x_b10
  obtain ⟨A11, c11, F11, rfl, hS2⟩ := St.newRowF hS hn
  replace hS := hS2
  clear hn hS2
  have x_P0 := hS.cell 8 rfl
  have x_b8 := hS.cell 3 rfl
  have x_b10 := hS.cell 1 rfl
  go_wp2_with fail
  refine (toSpecS_c _ _ black _ (hr2.below hS.bel) hlen2).mono ?_
  intro e w12 hn
  try clear x_P0
  try clear x_b8
  try clear x_b10
  obtain ⟨A12, c12, F12, rfl, hS2⟩ := St.newRowF hS hn
  replace hS := hS2
  clear hn hS2
  have x_P0 := hS.cell 9 rfl
  have x_b8 := hS.cell 4 rfl
  have x_b10 := hS.cell 2 rfl
  go_wp2_with fail
  refine (planOfI _ _ _ _ _ _ _ _ t l sites black lay bare _ ⟨(St.modA hS 3 rfl).1, (St.modA hS 3 rfl).2, htm, hm, hT.2, hv2⟩ (St.rowA hS 1 rfl) hlen1 (St.rowA hS 0 rfl) hlen2 HX.out).mono ?_
  rintro e w13 ⟨v13_0, F13_0, rfl, hSx⟩
  try clear x_P0
  try clear x_b8
  try clear x_b10
  replace hS := hS.join hSx
  clear hSx
  obtain ⟨A13_0, c13_0, rfl, _, _⟩ := hS.row 0 rfl
  have x_P0 := hS.cell 10 rfl
  have x_b8 := hS.cell 5 rfl
  have x_b10 := hS.cell 3 rfl
  try clear x_P0
  try clear x_b8
  try clear x_b10
  try clear x_b14
  replace hS := hS.made (.cells #[.slice A13_0 X.specs.length c13_0, .int .i64 X.lay, .bool X.bare] 70 (0, 0))
  have x_P0 := hS.cell 11 rfl
  have x_b8 := hS.cell 6 rfl
  have x_b10 := hS.cell 4 rfl
  have x_b14 := hS.cell 0 rfl
  go_wp2_with fail
  refine (eqPlan_c _ _ _ _ X _ (St.rowA hS 1 rfl) (St.rowA hS 7 rfl)).mono ?_
  rintro e w15 ⟨rfl, hb⟩
  try clear x_P0
  try clear x_b8
  try clear x_b10
  try clear x_b14
  replace hS := hS.step hb
  clear hb
  have x_P0 := hS.cell 11 rfl
  have x_b8 := hS.cell 6 rfl
  have x_b10 := hS.cell 4 rfl
  have x_b14 := hS.cell 0 rfl
  go_wp2
  try clear x_P0
  try clear x_b8
  try clear x_b10
  try clear x_b14
  replace hS := hS.drew
  refine wp_region_held_drew (S := (fun w' => w'.cell? ⟨w9.heap.size, 0, none⟩ = some (.slice A9 t.length c9) ∧ w'.cell? ⟨w9.heap.size, 1, none⟩ = some (.slice B9 l.length d9) ∧ w'.cell? ⟨w.heap.size, 0, none⟩ = some (.slice A t.length c) ∧ w'.cell? ⟨w.heap.size, 1, none⟩ = some (.slice B l.length d))) (by kernel_rfl) (⟨hS.cell 4 rfl 0, hS.cell 4 rfl 1, hS.cell 11 rfl 0, hS.cell 11 rfl 1⟩) (fun hHeld => ?_)
  first | (refine regW 0 (v := ?_) rfl (by rfl) (by kernel_rfl) (fun _ _ _ h => h) ?_ (by assumption) ?_; rotate_left; focus (intro w9 hSw; (try dsimp only at hSw); go_simp; (try with_reducible rfl); done)) | refine regU 0 rfl (by rfl) (by kernel_rfl) (fun _ _ _ h => h) (by assumption) ?_ | refine regN 0 rfl (by rfl) (by kernel_rfl) (by assumption) ?_
  try simp only [Act.put, List.setIfInBounds_toArray, List.set_cons_zero, List.set_cons_succ]
  first | (refine regW 1 (v := ?_) rfl (by rfl) (by kernel_rfl) (fun _ _ _ h => h) ?_ (by assumption) ?_; rotate_left; focus (intro w9 hSw; (try dsimp only at hSw); go_simp; (try with_reducible rfl); done)) | refine regU 1 rfl (by rfl) (by kernel_rfl) (fun _ _ _ h => h) (by assumption) ?_ | refine regN 1 rfl (by rfl) (by kernel_rfl) (by assumption) ?_
  try simp only [Act.put, List.setIfInBounds_toArray, List.set_cons_zero, List.set_cons_succ]
  refine regC 2 rfl (by kernel_rfl) (by rfl) (fun Kq hKq => ?_)
  go_simp
  (with_reducible refine (toModule _ _ _ _ t l _ (ht0.below hS.bel) (hr0.below hS.bel) htm hm hv).mono ?_)
  rintro e w16 ⟨v, u, F16, G16, rfl, hot, hor, hnd, hF, hb⟩; replace hS := St.newMod hS hot hor hnd hF hb; clear hot hor hnd hF hb; obtain ⟨A16, c16, B16, d16, rfl, rfl, _, _⟩ := St.modR hS 0 rfl
  try go_wp2_with fail
  refine hKq.out _ _ (⟨hS.cell 5 rfl 0, hS.cell 5 rfl 1, hS.cell 12 rfl 0, hS.cell 12 rfl 1⟩) (fun hHeld => ?_)
  clear hKq Kq
  (try simp only [Act.put, List.setIfInBounds_toArray, List.set_cons_zero, List.set_cons_succ])
  refine regC 3 rfl (by kernel_rfl) (by rfl) (fun Kq hKq => ?_)
  go_simp
  (with_reducible refine (eqModule _ _ _ _ _ _ _ _ t l _ (St.modA hS 6 rfl).1 (St.modA hS 6 rfl).2 (St.modA hS 0 rfl).1 (St.modA hS 0 rfl).2).mono ?_)
  rintro e w17 ⟨rfl, hb⟩; replace hS := hS.step hb; clear hb
  try go_wp2_with fail
  refine hKq.out _ _ (⟨hS.cell 5 rfl 0, hS.cell 5 rfl 1, hS.cell 12 rfl 0, hS.cell 12 rfl 1⟩) (fun hHeld => ?_)
  clear hKq Kq
  (try simp only [Act.put, List.setIfInBounds_toArray, List.set_cons_zero, List.set_cons_succ])
  first | (refine regW 4 (v := ?_) rfl (by rfl) (by kernel_rfl) (fun _ _ _ h => h) ?_ (by assumption) ?_; rotate_left; focus (intro w9 hSw; (try dsimp only at hSw); go_simp; (try with_reducible rfl); done)) | refine regU 4 rfl (by rfl) (by kernel_rfl) (fun _ _ _ h => h) (by assumption) ?_ | refine regN 4 rfl (by rfl) (by kernel_rfl) (by assumption) ?_
  try simp only [Act.put, List.setIfInBounds_toArray, List.set_cons_zero, List.set_cons_succ]
  refine wpAnyH_done (by kernel_rfl) ?_ _
  clear hHeld
  have x_P0 := hS.cell 12 rfl
  have x_b8 := hS.cell 7 rfl
  have x_b10 := hS.cell 5 rfl
  have x_b14 := hS.cell 1 rfl
  go_wp2_with fail
  refine (toSiteS_c _ _ sites _ (hr1.below hS.bel) hlen1).mono ?_
  intro e w18 hn
  try clear x_P0
  try clear x_b8
  try clear x_b10
  try clear x_b14
  obtain ⟨A18, c18, F18, rfl, hS2⟩ := St.newRowF hS hn
  replace hS := hS2
  clear hn hS2
  have x_P0 := hS.cell 13 rfl
  have x_b8 := hS.cell 8 rfl
  have x_b10 := hS.cell 6 rfl
  have x_b14 := hS.cell 2 rfl
  go_wp2_with fail
  refine (eqSiteS_c _ _ _ _ sites _ (St.rowA hS 5 rfl) (St.rowA hS 0 rfl)).mono ?_
  rintro e w19 ⟨rfl, hb⟩
  try clear x_P0
  try clear x_b8
  try clear x_b10
  try clear x_b14
  replace hS := hS.step hb
  clear hb
  have x_P0 := hS.cell 13 rfl
  have x_b8 := hS.cell 8 rfl
  have x_b10 := hS.cell 6 rfl
  have x_b14 := hS.cell 2 rfl
  go_wp2_with fail
  refine (toSpecS_c _ _ black _ (hr2.below hS.bel) hlen2).mono ?_
  intro e w20 hn
  try clear x_P0
  try clear x_b8
  try clear x_b10
  try clear x_b14
  obtain ⟨A20, c20, F20, rfl, hS2⟩ := St.newRowF hS hn
  replace hS := hS2
  clear hn hS2
  have x_P0 := hS.cell 14 rfl
  have x_b8 := hS.cell 9 rfl
  have x_b10 := hS.cell 7 rfl
  have x_b14 := hS.cell 3 rfl
  go_wp2_with fail
  refine (eqSpecS_c _ _ _ _ black _ (St.rowA hS 5 rfl) (St.rowA hS 0 rfl)).mono ?_
  rintro e w21 ⟨rfl, hb⟩
  try clear x_P0
  try clear x_b8
  try clear x_b10
  try clear x_b14
  replace hS := hS.step hb
  clear hb
  have x_P0 := hS.cell 14 rfl
  have x_b8 := hS.cell 9 rfl
  have x_b10 := hS.cell 7 rfl
  have x_b14 := hS.cell 3 rfl
  go_wp2_with fail
  refine (markModule _ _ t l 1 F9 G9 _ (hS.get 8 rfl).1 (hS.get 8 rfl).2 (hS.nodup 8 rfl) (by omega) (by omega) (by omega) (by omega) (fun x h => by have := hv x h; omega)).mono ?_
  rintro e w22 ⟨rfl, hmt, hml, hB⟩
  try clear x_P0
  try clear x_b8
  try clear x_b10
  try clear x_b14
  have hndx : (F9 ++ G9).Nodup := by have h9 := hS.nodup 8 rfl; exact h9
  replace hS := hS.upd (r' := Res.mod _ _ _ _ F9 G9) 8 rfl hB ⟨hmt, hml⟩ hndx (fun q hq => .inl hq)
  clear hmt hml hB hndx
  have x_P0 := hS.cell 14 rfl
  have x_b8 := hS.cell 9 rfl
  have x_b10 := hS.cell 7 rfl
  have x_b14 := hS.cell 3 rfl
  go_wp2_with fail
  refine (markSiteS_c _ sites (1 + (t.length : Int) + (ctL ctFunc l : Int)) F11 _ (St.own_ hS 6 rfl) (hS.nodup 6 rfl) (by omega) (by omega) hlen1).mono ?_
  rintro e w23 ⟨rfl, hmo, hB⟩
  try clear x_P0
  try clear x_b8
  try clear x_b10
  try clear x_b14
  have hndx : F11.Nodup := by have h9 := hS.nodup 6 rfl; exact h9
  replace hS := hS.upd (r' := Res.own kSite 163 _ (mkL mkSite ctSite (1 + (t.length : Int) + (ctL ctFunc l : Int)) sites) F11) 6 rfl hB hmo hndx (fun q hq => .inl hq)
  clear hmo hB hndx
  have x_P0 := hS.cell 14 rfl
  have x_b8 := hS.cell 9 rfl
  have x_b10 := hS.cell 7 rfl
  have x_b14 := hS.cell 3 rfl
  go_wp2_with fail
  refine (markSpecS_c _ black ((1 + (t.length : Int) + (ctL ctFunc l : Int)) + (ctL ctSite sites : Int)) F12 _ (St.own_ hS 5 rfl) (hS.nodup 5 rfl) (by omega) (by omega) hlen2).mono ?_
  rintro e w24 ⟨rfl, hmo, hB⟩
  try clear x_P0
  try clear x_b8
  try clear x_b10
  try clear x_b14
  have hndx : F12.Nodup := by have h9 := hS.nodup 5 rfl; exact h9
  replace hS := hS.upd (r' := Res.own kSpec 167 _ (mkL mkSpec ctSpec ((1 + (t.length : Int) + (ctL ctFunc l : Int)) + (ctL ctSite sites : Int)) black) F12) 5 rfl hB hmo hndx (fun q hq => .inl hq)
  clear hmo hB hndx
  have x_P0 := hS.cell 14 rfl
  have x_b8 := hS.cell 9 rfl
  have x_b10 := hS.cell 7 rfl
  have x_b14 := hS.cell 3 rfl
  go_wp2_with fail
  refine (eqPlan_c _ _ _ _ X _ (St.rowA hS 4 rfl) (St.rowA hS 10 rfl)).mono ?_
  rintro e w25 ⟨rfl, hb⟩
  try clear x_P0
  try clear x_b8
  try clear x_b10
  try clear x_b14
  replace hS := hS.step hb
  clear hb
  have x_P0 := hS.cell 14 rfl
  have x_b8 := hS.cell 9 rfl
  have x_b10 := hS.cell 7 rfl
  have x_b14 := hS.cell 3 rfl
  go_wp2_with fail
  refine (markPlan_c X _ F13_0 1 w _ _ hS 4 rfl (by omega) (by omega) hsmall).mono ?_
  rintro e w26 ⟨rfl, hS2⟩
  try clear x_P0
  try clear x_b8
  try clear x_b10
  try clear x_b14
  replace hS := hS2
  clear hS2
  have x_P0 := hS.cell 14 rfl
  have x_b8 := hS.cell 9 rfl
  have x_b10 := hS.cell 7 rfl
  have x_b14 := hS.cell 3 rfl
  go_wp2_with fail
  refine (heldPlan_c _ _ X 1 _ (St.rowN hS 4 rfl (mkL_len _ _ _ _)) (by omega) (by omega) hsmall).mono ?_
  rintro e w27 ⟨rfl, hb⟩
  try clear x_P0
  try clear x_b8
  try clear x_b10
  try clear x_b14
  replace hS := hS.step hb
  clear hb
  have x_P0 := hS.cell 14 rfl
  have x_b8 := hS.cell 9 rfl
  have x_b10 := hS.cell 7 rfl
  have x_b14 := hS.cell 3 rfl
  go_wp2_with fail
  refine (toModule _ _ _ _ t l _ (ht0.below hS.bel) (hr0.below hS.bel) htm hm hv).mono ?_
  rintro e w28 ⟨v, u, F28, G28, rfl, hot, hor, hnd, hF, hb⟩
  try clear x_P0
  try clear x_b8
  try clear x_b10
  try clear x_b14
  replace hS := St.newMod hS hot hor hnd hF hb
  clear hot hor hnd hF hb
  obtain ⟨A28, c28, B28, d28, rfl, rfl, _, _⟩ := St.modR hS 0 rfl
  have x_P0 := hS.cell 15 rfl
  have x_b8 := hS.cell 10 rfl
  have x_b10 := hS.cell 8 rfl
  have x_b14 := hS.cell 4 rfl
  go_wp2_with fail
  refine (toSiteS_c _ _ sites _ (hr1.below hS.bel) hlen1).mono ?_
  intro e w29 hn
  try clear x_P0
  try clear x_b8
  try clear x_b10
  try clear x_b14
  obtain ⟨A29, c29, F29, rfl, hS2⟩ := St.newRowF hS hn
  replace hS := hS2
  clear hn hS2
  have x_P0 := hS.cell 16 rfl
  have x_b8 := hS.cell 11 rfl
  have x_b10 := hS.cell 9 rfl
  have x_b14 := hS.cell 5 rfl
  go_wp2_with fail
  refine (toSpecS_c _ _ black _ (hr2.below hS.bel) hlen2).mono ?_
  intro e w30 hn
  try clear x_P0
  try clear x_b8
  try clear x_b10
  try clear x_b14
  obtain ⟨A30, c30, F30, rfl, hS2⟩ := St.newRowF hS hn
  replace hS := hS2
  clear hn hS2
  have x_P0 := hS.cell 17 rfl
  have x_b8 := hS.cell 12 rfl
  have x_b10 := hS.cell 10 rfl
  have x_b14 := hS.cell 6 rfl
  go_wp2_with fail
  refine (planOfI _ _ _ _ _ _ _ _ t l sites black lay bare _ ⟨(St.modA hS 2 rfl).1, (St.modA hS 2 rfl).2, htm, hm, hT.2, hv2⟩ (St.rowA hS 1 rfl) hlen1 (St.rowA hS 0 rfl) hlen2 HX.out).mono ?_
  rintro e w31 ⟨v31_0, F31_0, rfl, hSx⟩
  try clear x_P0
  try clear x_b8
  try clear x_b10
  try clear x_b14
  replace hS := hS.join hSx
  clear hSx
  obtain ⟨A31_0, c31_0, rfl, _, _⟩ := hS.row 0 rfl
  have x_P0 := hS.cell 18 rfl
  have x_b8 := hS.cell 13 rfl
  have x_b10 := hS.cell 11 rfl
  have x_b14 := hS.cell 7 rfl
  try clear x_P0
  try clear x_b8
  try clear x_b10
  try clear x_b14
  try clear x_b32
  replace hS := hS.made (.cells #[.slice A31_0 X.specs.length c31_0, .int .i64 X.lay, .bool X.bare] 70 (0, 0))
  have x_P0 := hS.cell 19 rfl
  have x_b8 := hS.cell 14 rfl
  have x_b10 := hS.cell 12 rfl
  have x_b14 := hS.cell 8 rfl
  have x_b32 := hS.cell 0 rfl
  go_wp2_with fail
  refine (eqPlan_c _ _ _ _ X _ (St.rowA hS 1 rfl) (St.rowA hS 15 rfl)).mono ?_
  rintro e w33 ⟨rfl, hb⟩
  try clear x_P0
  try clear x_b8
  try clear x_b10
  try clear x_b14
  try clear x_b32
  replace hS := hS.step hb
  clear hb
  have x_P0 := hS.cell 19 rfl
  have x_b8 := hS.cell 14 rfl
  have x_b10 := hS.cell 12 rfl
  have x_b14 := hS.cell 8 rfl
  have x_b32 := hS.cell 0 rfl
  go_wp2_with fail
  refine (heldPlan_c _ _ X 1 _ (St.rowN hS 9 rfl (mkL_len _ _ _ _)) (by omega) (by omega) hsmall).mono ?_
  rintro e w34 ⟨rfl, hb⟩
  try clear x_P0
  try clear x_b8
  try clear x_b10
  try clear x_b14
  try clear x_b32
  replace hS := hS.step hb
  clear hb
  have x_P0 := hS.cell 19 rfl
  have x_b8 := hS.cell 14 rfl
  have x_b10 := hS.cell 12 rfl
  have x_b14 := hS.cell 8 rfl
  have x_b32 := hS.cell 0 rfl
  go_wp2
  go_ret
  exact ⟨rfl, hS.bel⟩
theorem lawPlanOf (t : List ByteArray) (l : List DFunc) (sites : List DSite) (black : List DSpec) (lay : Int) (bare : Bool) (w : World) {A B : Option Addr} {c d : Nat} {A1 : Option Addr} {c1 : Nat} {A2 : Option Addr} {c2 : Nat} (ht0 : Knd.str.Row w A t.length t) (h_t : t.length ≤ c) (hr0 : kFunc.Row w B l.length l) (h_l : l.length ≤ d) (hr1 : kSite.Row w A1 sites.length sites) (h_sites : sites.length ≤ c1) (hr2 : kSpec.Row w A2 black.length black) (h_black : black.length ≤ c2) (hT : t.length ≤ maxLen ∧ ∀ y ∈ t, y.size ≤ maxLen) (hL : l.length ≤ maxLen ∧ ∀ y ∈ l, VFunc y) (hV1 : sites.length ≤ maxLen ∧ ∀ y ∈ sites, VSite y) (hV2 : black.length ≤ maxLen ∧ ∀ y ∈ black, VSpec y) (hw3 : (Lit.int .i64 lay).wf = true) : Calls Try.prog 8 #[.agg #[.slice A t.length c, .slice B l.length d], .slice A1 sites.length c1, .slice A2 black.length c2, .int .i64 lay, .bool bare] w fun e w' => e = .returned (.bool true) ∧ Below w.heap.size w w' := lawxPlanOf t l sites black lay bare w ht0 h_t hr0 h_l hr1 h_sites hr2 h_black hT hL hV1 hV2 hw3
end Go.Proofs.Ytpjdecneeakkeaa.Dat
