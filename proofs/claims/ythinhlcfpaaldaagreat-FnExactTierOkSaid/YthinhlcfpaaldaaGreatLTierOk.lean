/- The walk of the law of TierOk. Written by a program (lawg.py). -/
import Derived.Test.YthinhlcfpaaldaaGreatK3
import Derived.Test.YthinhlcfpaaldaaGreatK4
import Derived.Test.YthinhlcfpaaldaaGreatTi4
import Derived.Test.YthinhlcfpaaldaaGreatCapA
import Derived.Test.YthinhlcfpaaldaaGreatGTier
namespace Go.Proofs.YthinhlcfpaaldaaGreat.Dat
open Go Go.RowKit Go.Proofs.YthinhlcfpaaldaaGreat.Mem
set_option linter.unusedVariables false
set_option linter.unusedSimpArgs false
set_option maxHeartbeats 8000000 in
set_option maxRecDepth 100000 in
theorem lawxTierOk (t : List ByteArray) (l : List DFunc) (ti : DTier) (w : World) {A B : Option Addr} {c d : Nat} {A1_0 : Option Addr} {c1_0 : Nat} {A1_1 : Option Addr} {c1_1 : Nat} {A1_3 : Option Addr} {c1_3 : Nat} {A1_10 : Option Addr} {c1_10 : Nat} {A1_11 : Option Addr} {c1_11 : Nat} {A1_12 : Option Addr} {c1_12 : Nat} (ht0 : Knd.str.Row w A t.length t) (_ : t.length ≤ c) (hr0 : kFunc.Row w B l.length l) (_ : l.length ≤ d) (hr1_0 : kFrame.Row w A1_0 ti.vm.frames.length ti.vm.frames) (_ : ti.vm.frames.length ≤ c1_0) (hr1_1 : kRec.Row w A1_1 ti.vm.heap.length ti.vm.heap) (_ : ti.vm.heap.length ≤ c1_1) (hr1_3 : Knd.str.Row w A1_3 ti.vm.out.length ti.vm.out) (_ : ti.vm.out.length ≤ c1_3) (hr1_10 : kSite.Row w A1_10 ti.sites.length ti.sites) (_ : ti.sites.length ≤ c1_10) (hr1_11 : kFast.Row w A1_11 ti.codes.length ti.codes) (_ : ti.codes.length ≤ c1_11) (hr1_12 : kFail.Row w A1_12 ti.fails.length ti.fails) (_ : ti.fails.length ≤ c1_12) (hT : t.length ≤ maxLen ∧ ∀ y ∈ t, y.size ≤ maxLen) (hL : l.length ≤ maxLen ∧ ∀ y ∈ l, VFunc y) (hV1 : VTier ti) : Calls Tryz.prog 4 #[.agg #[.slice A t.length c, .slice B l.length d], .agg #[.slice A1_0 ti.vm.frames.length c1_0, .slice A1_1 ti.vm.heap.length c1_1, .int .i64 ti.vm.made, .slice A1_3 ti.vm.out.length c1_3, .int .i64 ti.vm.status, .int .i64 ti.vm.trap, .int .i64 ti.vm.value.k, .int .i64 ti.vm.value.n, .string ti.vm.value.s, .int .i64 ti.vm.steps, .slice A1_10 ti.sites.length c1_10, .slice A1_11 ti.codes.length c1_11, .slice A1_12 ti.fails.length c1_12, .int .i64 ti.guards, .int .i64 ti.entered]] w fun e w' => e = .returned (.bool true) ∧ Below w.heap.size w w' := by
  by_cases z0 : ((szMod t l : Nat) : Int) ≤ (1048576 : Int)
  rotate_left
  · skip
    have Z0 := szModule A B c d t l (1048576)
    rw [lft_gt (by omega)] at Z0
    have hS := (St.start w).made (.cells #[.slice A t.length c, .slice B l.length d] 25 (0, 0))
    replace hS := hS.madeAt (.cells #[.slice A1_0 ti.vm.frames.length c1_0, .slice A1_1 ti.vm.heap.length c1_1, .int .i64 ti.vm.made, .slice A1_3 ti.vm.out.length c1_3, .int .i64 ti.vm.status, .int .i64 ti.vm.trap, .int .i64 ti.vm.value.k, .int .i64 ti.vm.value.n, .string ti.vm.value.s, .int .i64 ti.vm.steps, .slice A1_10 ti.sites.length c1_10, .slice A1_11 ti.codes.length c1_11, .slice A1_12 ti.fails.length c1_12, .int .i64 ti.guards, .int .i64 ti.entered] 60 (0, 0)) (w.heap.size + 1) (by simp)
    go_enter Tryz.func4, Tryz.ntmps4
    go_wp2_with fail
    refine (Z0 _ (ht0.below hS.bel) (hr0.below hS.bel) hT.1 hL.1 hT.2 (fun x h => (hL.2 x h).2.2.1) (by omega) (by omega)).mono ?_
    rintro e w1 ⟨rfl, hb⟩
    try clear x_P0
    try clear x_P1
    replace hS := hS.step hb
    clear hb
    have x_P0 := hS.cell 1 rfl
    have x_P1 := hS.cell 0 rfl
    go_wp2
    go_ret
    exact ⟨rfl, hS.bel⟩
  by_cases z1 : ((msTier ti : Nat) : Int) ≤ (1048576 - ((szMod t l : Nat) : Int) : Int)
  rotate_left
  · skip
    have Z0 := szModule A B c d t l (1048576)
    rw [lft_le z0] at Z0
    have g0 : 0 ≤ 1048576 - ((szMod t l : Nat) : Int) := by omega
    have Z1 := szTier_c A1_0 A1_1 A1_3 A1_10 A1_11 A1_12 c1_0 c1_1 c1_3 c1_10 c1_11 c1_12 ti (1048576 - ((szMod t l : Nat) : Int))
    rw [lft_gt (by omega)] at Z1
    have hS := (St.start w).made (.cells #[.slice A t.length c, .slice B l.length d] 25 (0, 0))
    replace hS := hS.madeAt (.cells #[.slice A1_0 ti.vm.frames.length c1_0, .slice A1_1 ti.vm.heap.length c1_1, .int .i64 ti.vm.made, .slice A1_3 ti.vm.out.length c1_3, .int .i64 ti.vm.status, .int .i64 ti.vm.trap, .int .i64 ti.vm.value.k, .int .i64 ti.vm.value.n, .string ti.vm.value.s, .int .i64 ti.vm.steps, .slice A1_10 ti.sites.length c1_10, .slice A1_11 ti.codes.length c1_11, .slice A1_12 ti.fails.length c1_12, .int .i64 ti.guards, .int .i64 ti.entered] 60 (0, 0)) (w.heap.size + 1) (by simp)
    go_enter Tryz.func4, Tryz.ntmps4
    go_wp2_with fail
    refine (Z0 _ (ht0.below hS.bel) (hr0.below hS.bel) hT.1 hL.1 hT.2 (fun x h => (hL.2 x h).2.2.1) (by omega) (by omega)).mono ?_
    rintro e w1 ⟨rfl, hb⟩
    try clear x_P0
    try clear x_P1
    replace hS := hS.step hb
    clear hb
    have x_P0 := hS.cell 1 rfl
    have x_P1 := hS.cell 0 rfl
    go_wp2_with fail
    refine (Z1 _ (hr1_0.below hS.bel) (hr1_1.below hS.bel) (hr1_3.below hS.bel) (hr1_10.below hS.bel) (hr1_11.below hS.bel) (hr1_12.below hS.bel) hV1 (by omega) (by omega)).mono ?_
    rintro e w2 ⟨rfl, hb⟩
    try clear x_P0
    try clear x_P1
    replace hS := hS.step hb
    clear hb
    have x_P0 := hS.cell 1 rfl
    have x_P1 := hS.cell 0 rfl
    go_wp2
    go_ret
    exact ⟨rfl, hS.bel⟩
  have Z0 := szModule A B c d t l (1048576)
  rw [lft_le z0] at Z0
  have g0 : 0 ≤ 1048576 - ((szMod t l : Nat) : Int) := by omega
  have Z1 := szTier_c A1_0 A1_1 A1_3 A1_10 A1_11 A1_12 c1_0 c1_1 c1_3 c1_10 c1_11 c1_12 ti (1048576 - ((szMod t l : Nat) : Int))
  rw [lft_le z1] at Z1
  have g1 : 0 ≤ 1048576 - ((szMod t l : Nat) : Int) - ((msTier ti : Nat) : Int) := by omega
  obtain ⟨htm, hm, hv⟩ := szMod_small z0
  have hv2 : ∀ x ∈ l, x.code.length ≤ 1048576 ∧ -9223372036854775808 ≤ x.locals ∧ x.locals ≤ 9223372036854775807 := fun x h => ⟨hv x h, wf_lo (hL.2 x h).2.1, wf_hi (hL.2 x h).2.1⟩
  have hlen1 := MTier_of (x := ti) (by omega)
  have hmc : msTier ti ≤ 1048576 := by omega
  have hS := (St.start w).made (.cells #[.slice A t.length c, .slice B l.length d] 25 (0, 0))
  replace hS := hS.madeAt (.cells #[.slice A1_0 ti.vm.frames.length c1_0, .slice A1_1 ti.vm.heap.length c1_1, .int .i64 ti.vm.made, .slice A1_3 ti.vm.out.length c1_3, .int .i64 ti.vm.status, .int .i64 ti.vm.trap, .int .i64 ti.vm.value.k, .int .i64 ti.vm.value.n, .string ti.vm.value.s, .int .i64 ti.vm.steps, .slice A1_10 ti.sites.length c1_10, .slice A1_11 ti.codes.length c1_11, .slice A1_12 ti.fails.length c1_12, .int .i64 ti.guards, .int .i64 ti.entered] 60 (0, 0)) (w.heap.size + 1) (by simp)
  go_enter Tryz.func4, Tryz.ntmps4
  go_wp2_with fail
  refine (Z0 _ (ht0.below hS.bel) (hr0.below hS.bel) hT.1 hL.1 hT.2 (fun x h => (hL.2 x h).2.2.1) (by omega) (by omega)).mono ?_
  rintro e w1 ⟨rfl, hb⟩
  try clear x_P0
  try clear x_P1
  replace hS := hS.step hb
  clear hb
  have x_P0 := hS.cell 1 rfl
  have x_P1 := hS.cell 0 rfl
  go_wp2_with fail
  refine (Z1 _ (hr1_0.below hS.bel) (hr1_1.below hS.bel) (hr1_3.below hS.bel) (hr1_10.below hS.bel) (hr1_11.below hS.bel) (hr1_12.below hS.bel) hV1 (by omega) (by omega)).mono ?_
  rintro e w2 ⟨rfl, hb⟩
  try clear x_P0
  try clear x_P1
  replace hS := hS.step hb
  clear hb
  have x_P0 := hS.cell 1 rfl
  have x_P1 := hS.cell 0 rfl
  go_wp2
  try clear x_P0
  try clear x_P1
  replace hS := hS.drew
  refine wp_region_held_drew (S := (fun w' => w'.cell? ⟨w.heap.size, 0, none⟩ = some (.slice A t.length c) ∧ w'.cell? ⟨w.heap.size, 1, none⟩ = some (.slice B l.length d) ∧ w'.cell? ⟨w.heap.size + 1, 0, none⟩ = some (.slice A1_0 ti.vm.frames.length c1_0) ∧ w'.cell? ⟨w.heap.size + 1, 1, none⟩ = some (.slice A1_1 ti.vm.heap.length c1_1) ∧ w'.cell? ⟨w.heap.size + 1, 2, none⟩ = some (.int .i64 ti.vm.made) ∧ w'.cell? ⟨w.heap.size + 1, 3, none⟩ = some (.slice A1_3 ti.vm.out.length c1_3) ∧ w'.cell? ⟨w.heap.size + 1, 4, none⟩ = some (.int .i64 ti.vm.status) ∧ w'.cell? ⟨w.heap.size + 1, 5, none⟩ = some (.int .i64 ti.vm.trap) ∧ w'.cell? ⟨w.heap.size + 1, 6, none⟩ = some (.int .i64 ti.vm.value.k) ∧ w'.cell? ⟨w.heap.size + 1, 7, none⟩ = some (.int .i64 ti.vm.value.n) ∧ w'.cell? ⟨w.heap.size + 1, 8, none⟩ = some (.string ti.vm.value.s) ∧ w'.cell? ⟨w.heap.size + 1, 9, none⟩ = some (.int .i64 ti.vm.steps) ∧ w'.cell? ⟨w.heap.size + 1, 10, none⟩ = some (.slice A1_10 ti.sites.length c1_10) ∧ w'.cell? ⟨w.heap.size + 1, 11, none⟩ = some (.slice A1_11 ti.codes.length c1_11) ∧ w'.cell? ⟨w.heap.size + 1, 12, none⟩ = some (.slice A1_12 ti.fails.length c1_12) ∧ w'.cell? ⟨w.heap.size + 1, 13, none⟩ = some (.int .i64 ti.guards) ∧ w'.cell? ⟨w.heap.size + 1, 14, none⟩ = some (.int .i64 ti.entered))) (by kernel_rfl) (⟨hS.cell 1 rfl 0, hS.cell 1 rfl 1, hS.cell 0 rfl 0, hS.cell 0 rfl 1, hS.cell 0 rfl 2, hS.cell 0 rfl 3, hS.cell 0 rfl 4, hS.cell 0 rfl 5, hS.cell 0 rfl 6, hS.cell 0 rfl 7, hS.cell 0 rfl 8, hS.cell 0 rfl 9, hS.cell 0 rfl 10, hS.cell 0 rfl 11, hS.cell 0 rfl 12, hS.cell 0 rfl 13, hS.cell 0 rfl 14⟩) (fun hHeld => ?_)
  (first | refine rQ1 ?_ | refine rQ2 ?_); (try simp only [pP]); (first | refine rW 2 ?_ | refine rV 2 ?_); (try simp only [pP])
  refine regC 1 rfl (by kernel_rfl) (by rfl) (fun Kq hKq => ?_)
  go_simp
  (with_reducible refine (toModule _ _ _ _ t l _ (ht0.below hS.bel) (hr0.below hS.bel) htm hm hv).mono ?_)
  rintro e w3 ⟨v, u, F3, G3, rfl, hot, hor, hnd, hF, hb⟩; replace hS := St.newMod hS hot hor hnd hF hb; clear hot hor hnd hF hb; obtain ⟨A3, c3, B3, d3, rfl, rfl, _, _⟩ := St.modR hS 0 rfl
  try go_wp2_with fail
  refine hKq.out _ _ (⟨hS.cell 2 rfl 0, hS.cell 2 rfl 1, hS.cell 1 rfl 0, hS.cell 1 rfl 1, hS.cell 1 rfl 2, hS.cell 1 rfl 3, hS.cell 1 rfl 4, hS.cell 1 rfl 5, hS.cell 1 rfl 6, hS.cell 1 rfl 7, hS.cell 1 rfl 8, hS.cell 1 rfl 9, hS.cell 1 rfl 10, hS.cell 1 rfl 11, hS.cell 1 rfl 12, hS.cell 1 rfl 13, hS.cell 1 rfl 14⟩) (fun hHeld => ?_)
  clear hKq Kq
  (try simp only [pP])
  refine regC 3 rfl (by kernel_rfl) (by rfl) (fun Kq hKq => ?_)
  go_simp
  (with_reducible refine (toTier_c _ _ _ _ _ _ _ _ _ _ _ _ ti _ (hr1_0.below hS.bel) (hr1_1.below hS.bel) (hr1_3.below hS.bel) (hr1_10.below hS.bel) (hr1_11.below hS.bel) (hr1_12.below hS.bel) hlen1).mono ?_)
  rintro e w4 ⟨v4_0, v4_1, v4_3, v4_10, v4_11, v4_12, F4_0, F4_1, F4_3, F4_10, F4_11, F4_12, rfl, hSx⟩; replace hS := hS.join hSx; clear hSx; obtain ⟨A4_0, c4_0, rfl, _, _⟩ := hS.row 0 rfl; obtain ⟨A4_1, c4_1, rfl, _, _⟩ := hS.row 1 rfl; obtain ⟨A4_3, c4_3, rfl, _, _⟩ := hS.row 2 rfl; obtain ⟨A4_10, c4_10, rfl, _, _⟩ := hS.row 3 rfl; obtain ⟨A4_11, c4_11, rfl, _, _⟩ := hS.row 4 rfl; obtain ⟨A4_12, c4_12, rfl, _, _⟩ := hS.row 5 rfl
  try go_wp2_with fail
  refine hKq.out _ _ (⟨hS.cell 8 rfl 0, hS.cell 8 rfl 1, hS.cell 7 rfl 0, hS.cell 7 rfl 1, hS.cell 7 rfl 2, hS.cell 7 rfl 3, hS.cell 7 rfl 4, hS.cell 7 rfl 5, hS.cell 7 rfl 6, hS.cell 7 rfl 7, hS.cell 7 rfl 8, hS.cell 7 rfl 9, hS.cell 7 rfl 10, hS.cell 7 rfl 11, hS.cell 7 rfl 12, hS.cell 7 rfl 13, hS.cell 7 rfl 14⟩) (fun hHeld => ?_)
  clear hKq Kq
  (try simp only [pP])
  refine regC 4 rfl (by kernel_rfl) (by rfl) (fun Kq hKq => ?_)
  go_simp
  (with_reducible refine (tierOk3 _ _ _ _ _ _ _ _ _ _ _ _ _ _ _ _ t l ti _ ⟨(St.modA hS 6 rfl).1, (St.modA hS 6 rfl).2, htm, hm, hT.2, hv2⟩ (St.capA hS 5 rfl) (St.rowA hS 0 rfl) (St.rowA hS 1 rfl) (St.rowA hS 2 rfl) (St.rowA hS 3 rfl) (St.rowA hS 4 rfl) (St.rowA hS 5 rfl) hlen1 hmc rfl).mono ?_)
  rintro e w5 ⟨rfl, hb⟩; replace hS := hS.step hb; clear hb
  try go_wp2_with fail
  refine hKq.out _ _ (⟨hS.cell 8 rfl 0, hS.cell 8 rfl 1, hS.cell 7 rfl 0, hS.cell 7 rfl 1, hS.cell 7 rfl 2, hS.cell 7 rfl 3, hS.cell 7 rfl 4, hS.cell 7 rfl 5, hS.cell 7 rfl 6, hS.cell 7 rfl 7, hS.cell 7 rfl 8, hS.cell 7 rfl 9, hS.cell 7 rfl 10, hS.cell 7 rfl 11, hS.cell 7 rfl 12, hS.cell 7 rfl 13, hS.cell 7 rfl 14⟩) (fun hHeld => ?_)
  clear hKq Kq
  (try simp only [pP])
  (first | refine rQ1 ?_ | refine rQ2 ?_); (try simp only [pP])
  refine wpAnyH_done (by kernel_rfl) ?_ _
  clear hHeld
  have x_P0 := hS.cell 8 rfl
  have x_P1 := hS.cell 7 rfl
  go_wp2_with fail
  refine (toModule _ _ _ _ t l _ (ht0.below hS.bel) (hr0.below hS.bel) htm hm hv).mono ?_
  rintro e w6 ⟨v, u, F6, G6, rfl, hot, hor, hnd, hF, hb⟩
  try clear x_P0
  try clear x_P1
  replace hS := St.newMod hS hot hor hnd hF hb
  clear hot hor hnd hF hb
  obtain ⟨A6, c6, B6, d6, rfl, rfl, _, _⟩ := St.modR hS 0 rfl
  have x_P0 := hS.cell 9 rfl
  have x_P1 := hS.cell 8 rfl
  try clear x_P0
  try clear x_P1
  try clear x_b7
  replace hS := hS.made (.cells #[.slice A6 t.length c6, .slice B6 l.length d6] 36 (0, 0))
  have x_P0 := hS.cell 10 rfl
  have x_P1 := hS.cell 9 rfl
  have x_b7 := hS.cell 0 rfl
  go_wp2_with fail
  refine (toTier_c _ _ _ _ _ _ _ _ _ _ _ _ ti _ (hr1_0.below hS.bel) (hr1_1.below hS.bel) (hr1_3.below hS.bel) (hr1_10.below hS.bel) (hr1_11.below hS.bel) (hr1_12.below hS.bel) hlen1).mono ?_
  rintro e w8 ⟨v8_0, v8_1, v8_3, v8_10, v8_11, v8_12, F8_0, F8_1, F8_3, F8_10, F8_11, F8_12, rfl, hSx⟩
  try clear x_P0
  try clear x_P1
  try clear x_b7
  replace hS := hS.join hSx
  clear hSx
  obtain ⟨A8_0, c8_0, rfl, _, _⟩ := hS.row 0 rfl
  obtain ⟨A8_1, c8_1, rfl, _, _⟩ := hS.row 1 rfl
  obtain ⟨A8_3, c8_3, rfl, _, _⟩ := hS.row 2 rfl
  obtain ⟨A8_10, c8_10, rfl, _, _⟩ := hS.row 3 rfl
  obtain ⟨A8_11, c8_11, rfl, _, _⟩ := hS.row 4 rfl
  obtain ⟨A8_12, c8_12, rfl, _, _⟩ := hS.row 5 rfl
  try dsimp only [List.set_cons_succ, List.set_cons_zero, List.cons_append, List.nil_append, List.eraseIdx_cons_succ, List.eraseIdx_cons_zero] at hS
  have x_P0 := hS.cell 16 rfl
  have x_P1 := hS.cell 15 rfl
  have x_b7 := hS.cell 6 rfl
  try clear x_P0
  try clear x_P1
  try clear x_b7
  try clear x_b9
  replace hS := hS.made (.cells #[.slice A8_0 ti.vm.frames.length c8_0, .slice A8_1 ti.vm.heap.length c8_1, .int .i64 ti.vm.made, .slice A8_3 ti.vm.out.length c8_3, .int .i64 ti.vm.status, .int .i64 ti.vm.trap, .int .i64 ti.vm.value.k, .int .i64 ti.vm.value.n, .string ti.vm.value.s, .int .i64 ti.vm.steps, .slice A8_10 ti.sites.length c8_10, .slice A8_11 ti.codes.length c8_11, .slice A8_12 ti.fails.length c8_12, .int .i64 ti.guards, .int .i64 ti.entered] 72 (0, 0))
  have x_P0 := hS.cell 17 rfl
  have x_P1 := hS.cell 16 rfl
  have x_b7 := hS.cell 7 rfl
  have x_b9 := hS.cell 0 rfl
  go_wp2_with fail
  refine (tierOkI _ _ _ _ _ _ _ _ _ _ _ _ _ _ _ _ t l ti _ ⟨(St.modA hS 8 rfl).1, (St.modA hS 8 rfl).2, htm, hm, hT.2, hv2⟩ (St.capA hS 6 rfl) (St.rowA hS 1 rfl) (St.rowA hS 2 rfl) (St.rowA hS 3 rfl) (St.rowA hS 4 rfl) (St.rowA hS 5 rfl) (St.rowA hS 6 rfl) hlen1 hmc rfl).mono ?_
  rintro e w10 ⟨rfl, hb⟩
  try clear x_P0
  try clear x_P1
  try clear x_b7
  try clear x_b9
  replace hS := hS.step hb
  clear hb
  have x_P0 := hS.cell 17 rfl
  have x_P1 := hS.cell 16 rfl
  have x_b7 := hS.cell 7 rfl
  have x_b9 := hS.cell 0 rfl
  as_aux_lemma =>
    go_wp2
    try clear x_P0
    try clear x_P1
    try clear x_b7
    try clear x_b9
    replace hS := hS.drew
    refine wp_region_held_drew (S := (fun w' => w'.cell? ⟨w6.heap.size, 0, none⟩ = some (.slice A6 t.length c6) ∧ w'.cell? ⟨w6.heap.size, 1, none⟩ = some (.slice B6 l.length d6) ∧ w'.cell? ⟨w.heap.size, 0, none⟩ = some (.slice A t.length c) ∧ w'.cell? ⟨w.heap.size, 1, none⟩ = some (.slice B l.length d))) (by kernel_rfl) (⟨hS.cell 7 rfl 0, hS.cell 7 rfl 1, hS.cell 17 rfl 0, hS.cell 17 rfl 1⟩) (fun hHeld => ?_)
    (iterate 2 (first | refine rQ1 ?_ | refine rQ2 ?_); try simp only [pP])
    refine regC 2 rfl (by kernel_rfl) (by rfl) (fun Kq hKq => ?_)
    go_simp
    (with_reducible refine (toModule _ _ _ _ t l _ (ht0.below hS.bel) (hr0.below hS.bel) htm hm hv).mono ?_)
    rintro e w11 ⟨v, u, F11, G11, rfl, hot, hor, hnd, hF, hb⟩; replace hS := St.newMod hS hot hor hnd hF hb; clear hot hor hnd hF hb; obtain ⟨A11, c11, B11, d11, rfl, rfl, _, _⟩ := St.modR hS 0 rfl
    try go_wp2_with fail
    refine hKq.out _ _ (⟨hS.cell 8 rfl 0, hS.cell 8 rfl 1, hS.cell 18 rfl 0, hS.cell 18 rfl 1⟩) (fun hHeld => ?_)
    clear hKq Kq
    (try simp only [pP])
    refine regC 3 rfl (by kernel_rfl) (by rfl) (fun Kq hKq => ?_)
    go_simp
    (with_reducible refine (eqModule _ _ _ _ _ _ _ _ t l _ (St.modA hS 9 rfl).1 (St.modA hS 9 rfl).2 (St.modA hS 0 rfl).1 (St.modA hS 0 rfl).2).mono ?_)
    rintro e w12 ⟨rfl, hb⟩; replace hS := hS.step hb; clear hb
    try go_wp2_with fail
    refine hKq.out _ _ (⟨hS.cell 8 rfl 0, hS.cell 8 rfl 1, hS.cell 18 rfl 0, hS.cell 18 rfl 1⟩) (fun hHeld => ?_)
    clear hKq Kq
    (try simp only [pP])
    (first | refine rQ1 ?_ | refine rQ2 ?_); (try simp only [pP])
    refine wpAnyH_done (by kernel_rfl) ?_ _
    clear hHeld
    have x_P0 := hS.cell 18 rfl
    have x_P1 := hS.cell 17 rfl
    have x_b7 := hS.cell 8 rfl
    have x_b9 := hS.cell 1 rfl
    go_wp2
    try clear x_P0
    try clear x_P1
    try clear x_b7
    try clear x_b9
    replace hS := hS.drew
    refine wp_region_held_drew (S := (fun w' => w'.cell? ⟨w8.heap.size, 0, none⟩ = some (.slice A8_0 ti.vm.frames.length c8_0) ∧ w'.cell? ⟨w8.heap.size, 1, none⟩ = some (.slice A8_1 ti.vm.heap.length c8_1) ∧ w'.cell? ⟨w8.heap.size, 2, none⟩ = some (.int .i64 ti.vm.made) ∧ w'.cell? ⟨w8.heap.size, 3, none⟩ = some (.slice A8_3 ti.vm.out.length c8_3) ∧ w'.cell? ⟨w8.heap.size, 4, none⟩ = some (.int .i64 ti.vm.status) ∧ w'.cell? ⟨w8.heap.size, 5, none⟩ = some (.int .i64 ti.vm.trap) ∧ w'.cell? ⟨w8.heap.size, 6, none⟩ = some (.int .i64 ti.vm.value.k) ∧ w'.cell? ⟨w8.heap.size, 7, none⟩ = some (.int .i64 ti.vm.value.n) ∧ w'.cell? ⟨w8.heap.size, 8, none⟩ = some (.string ti.vm.value.s) ∧ w'.cell? ⟨w8.heap.size, 9, none⟩ = some (.int .i64 ti.vm.steps) ∧ w'.cell? ⟨w8.heap.size, 10, none⟩ = some (.slice A8_10 ti.sites.length c8_10) ∧ w'.cell? ⟨w8.heap.size, 11, none⟩ = some (.slice A8_11 ti.codes.length c8_11) ∧ w'.cell? ⟨w8.heap.size, 12, none⟩ = some (.slice A8_12 ti.fails.length c8_12) ∧ w'.cell? ⟨w8.heap.size, 13, none⟩ = some (.int .i64 ti.guards) ∧ w'.cell? ⟨w8.heap.size, 14, none⟩ = some (.int .i64 ti.entered) ∧ w'.cell? ⟨w.heap.size + 1, 0, none⟩ = some (.slice A1_0 ti.vm.frames.length c1_0) ∧ w'.cell? ⟨w.heap.size + 1, 1, none⟩ = some (.slice A1_1 ti.vm.heap.length c1_1) ∧ w'.cell? ⟨w.heap.size + 1, 2, none⟩ = some (.int .i64 ti.vm.made) ∧ w'.cell? ⟨w.heap.size + 1, 3, none⟩ = some (.slice A1_3 ti.vm.out.length c1_3) ∧ w'.cell? ⟨w.heap.size + 1, 4, none⟩ = some (.int .i64 ti.vm.status) ∧ w'.cell? ⟨w.heap.size + 1, 5, none⟩ = some (.int .i64 ti.vm.trap) ∧ w'.cell? ⟨w.heap.size + 1, 6, none⟩ = some (.int .i64 ti.vm.value.k) ∧ w'.cell? ⟨w.heap.size + 1, 7, none⟩ = some (.int .i64 ti.vm.value.n) ∧ w'.cell? ⟨w.heap.size + 1, 8, none⟩ = some (.string ti.vm.value.s) ∧ w'.cell? ⟨w.heap.size + 1, 9, none⟩ = some (.int .i64 ti.vm.steps) ∧ w'.cell? ⟨w.heap.size + 1, 10, none⟩ = some (.slice A1_10 ti.sites.length c1_10) ∧ w'.cell? ⟨w.heap.size + 1, 11, none⟩ = some (.slice A1_11 ti.codes.length c1_11) ∧ w'.cell? ⟨w.heap.size + 1, 12, none⟩ = some (.slice A1_12 ti.fails.length c1_12) ∧ w'.cell? ⟨w.heap.size + 1, 13, none⟩ = some (.int .i64 ti.guards) ∧ w'.cell? ⟨w.heap.size + 1, 14, none⟩ = some (.int .i64 ti.entered))) (by kernel_rfl) (⟨hS.cell 1 rfl 0, hS.cell 1 rfl 1, hS.cell 1 rfl 2, hS.cell 1 rfl 3, hS.cell 1 rfl 4, hS.cell 1 rfl 5, hS.cell 1 rfl 6, hS.cell 1 rfl 7, hS.cell 1 rfl 8, hS.cell 1 rfl 9, hS.cell 1 rfl 10, hS.cell 1 rfl 11, hS.cell 1 rfl 12, hS.cell 1 rfl 13, hS.cell 1 rfl 14, hS.cell 17 rfl 0, hS.cell 17 rfl 1, hS.cell 17 rfl 2, hS.cell 17 rfl 3, hS.cell 17 rfl 4, hS.cell 17 rfl 5, hS.cell 17 rfl 6, hS.cell 17 rfl 7, hS.cell 17 rfl 8, hS.cell 17 rfl 9, hS.cell 17 rfl 10, hS.cell 17 rfl 11, hS.cell 17 rfl 12, hS.cell 17 rfl 13, hS.cell 17 rfl 14⟩) (fun hHeld => ?_)
    (iterate 2 (first | refine rQ1 ?_ | refine rQ2 ?_); try simp only [pP])
    refine regC 2 rfl (by kernel_rfl) (by rfl) (fun Kq hKq => ?_)
    go_simp
    (with_reducible refine (toTier_c _ _ _ _ _ _ _ _ _ _ _ _ ti _ (hr1_0.below hS.bel) (hr1_1.below hS.bel) (hr1_3.below hS.bel) (hr1_10.below hS.bel) (hr1_11.below hS.bel) (hr1_12.below hS.bel) hlen1).mono ?_)
    rintro e w13 ⟨v13_0, v13_1, v13_3, v13_10, v13_11, v13_12, F13_0, F13_1, F13_3, F13_10, F13_11, F13_12, rfl, hSx⟩; replace hS := hS.join hSx; clear hSx; obtain ⟨A13_0, c13_0, rfl, _, _⟩ := hS.row 0 rfl; obtain ⟨A13_1, c13_1, rfl, _, _⟩ := hS.row 1 rfl; obtain ⟨A13_3, c13_3, rfl, _, _⟩ := hS.row 2 rfl; obtain ⟨A13_10, c13_10, rfl, _, _⟩ := hS.row 3 rfl; obtain ⟨A13_11, c13_11, rfl, _, _⟩ := hS.row 4 rfl; obtain ⟨A13_12, c13_12, rfl, _, _⟩ := hS.row 5 rfl
    try go_wp2_with fail
    refine hKq.out _ _ (⟨hS.cell 7 rfl 0, hS.cell 7 rfl 1, hS.cell 7 rfl 2, hS.cell 7 rfl 3, hS.cell 7 rfl 4, hS.cell 7 rfl 5, hS.cell 7 rfl 6, hS.cell 7 rfl 7, hS.cell 7 rfl 8, hS.cell 7 rfl 9, hS.cell 7 rfl 10, hS.cell 7 rfl 11, hS.cell 7 rfl 12, hS.cell 7 rfl 13, hS.cell 7 rfl 14, hS.cell 23 rfl 0, hS.cell 23 rfl 1, hS.cell 23 rfl 2, hS.cell 23 rfl 3, hS.cell 23 rfl 4, hS.cell 23 rfl 5, hS.cell 23 rfl 6, hS.cell 23 rfl 7, hS.cell 23 rfl 8, hS.cell 23 rfl 9, hS.cell 23 rfl 10, hS.cell 23 rfl 11, hS.cell 23 rfl 12, hS.cell 23 rfl 13, hS.cell 23 rfl 14⟩) (fun hHeld => ?_)
    clear hKq Kq
    (try simp only [pP])
    refine regC 3 rfl (by kernel_rfl) (by rfl) (fun Kq hKq => ?_)
    go_simp
    (with_reducible refine (eqTier_c _ _ _ _ _ _ _ _ _ _ _ _ _ _ _ _ _ _ _ _ _ _ _ _ ti _ (St.rowA hS 8 rfl) (St.rowA hS 9 rfl) (St.rowA hS 10 rfl) (St.rowA hS 11 rfl) (St.rowA hS 12 rfl) (St.rowA hS 13 rfl) (St.rowA hS 0 rfl) (St.rowA hS 1 rfl) (St.rowA hS 2 rfl) (St.rowA hS 3 rfl) (St.rowA hS 4 rfl) (St.rowA hS 5 rfl)).mono ?_)
    rintro e w14 ⟨rfl, hb⟩; replace hS := hS.step hb; clear hb
    try go_wp2_with fail
    refine hKq.out _ _ (⟨hS.cell 7 rfl 0, hS.cell 7 rfl 1, hS.cell 7 rfl 2, hS.cell 7 rfl 3, hS.cell 7 rfl 4, hS.cell 7 rfl 5, hS.cell 7 rfl 6, hS.cell 7 rfl 7, hS.cell 7 rfl 8, hS.cell 7 rfl 9, hS.cell 7 rfl 10, hS.cell 7 rfl 11, hS.cell 7 rfl 12, hS.cell 7 rfl 13, hS.cell 7 rfl 14, hS.cell 23 rfl 0, hS.cell 23 rfl 1, hS.cell 23 rfl 2, hS.cell 23 rfl 3, hS.cell 23 rfl 4, hS.cell 23 rfl 5, hS.cell 23 rfl 6, hS.cell 23 rfl 7, hS.cell 23 rfl 8, hS.cell 23 rfl 9, hS.cell 23 rfl 10, hS.cell 23 rfl 11, hS.cell 23 rfl 12, hS.cell 23 rfl 13, hS.cell 23 rfl 14⟩) (fun hHeld => ?_)
    clear hKq Kq
    (try simp only [pP])
    (first | refine rQ1 ?_ | refine rQ2 ?_); (try simp only [pP])
    refine wpAnyH_done (by kernel_rfl) ?_ _
    clear hHeld
    have x_P0 := hS.cell 24 rfl
    have x_P1 := hS.cell 23 rfl
    have x_b7 := hS.cell 14 rfl
    have x_b9 := hS.cell 7 rfl
    go_wp2
    go_ret
    exact ⟨rfl, hS.bel⟩
theorem lawTierOk (t : List ByteArray) (l : List DFunc) (ti_0 : List DFrame) (ti_1 : List DRec) (ti_2 : Int) (ti_3 : List ByteArray) (ti_4 : Int) (ti_5 : Int) (ti_6 : Int) (ti_7 : Int) (ti_8 : ByteArray) (ti_9 : Int) (ti_10 : List DSite) (ti_11 : List DFast) (ti_12 : List DFail) (ti_13 : Int) (ti_14 : Int) (w : World) {A B : Option Addr} {c d : Nat} {A1_0 : Option Addr} {c1_0 : Nat} {A1_1 : Option Addr} {c1_1 : Nat} {A1_3 : Option Addr} {c1_3 : Nat} {A1_10 : Option Addr} {c1_10 : Nat} {A1_11 : Option Addr} {c1_11 : Nat} {A1_12 : Option Addr} {c1_12 : Nat} (ht0 : Knd.str.Row w A t.length t) (h_t : t.length ≤ c) (hr0 : kFunc.Row w B l.length l) (h_l : l.length ≤ d) (hr1_0 : kFrame.Row w A1_0 ti_0.length ti_0) (h_1_0 : ti_0.length ≤ c1_0) (hr1_1 : kRec.Row w A1_1 ti_1.length ti_1) (h_1_1 : ti_1.length ≤ c1_1) (hr1_3 : Knd.str.Row w A1_3 ti_3.length ti_3) (h_1_3 : ti_3.length ≤ c1_3) (hr1_10 : kSite.Row w A1_10 ti_10.length ti_10) (h_1_10 : ti_10.length ≤ c1_10) (hr1_11 : kFast.Row w A1_11 ti_11.length ti_11) (h_1_11 : ti_11.length ≤ c1_11) (hr1_12 : kFail.Row w A1_12 ti_12.length ti_12) (h_1_12 : ti_12.length ≤ c1_12) (hT : t.length ≤ maxLen ∧ ∀ y ∈ t, y.size ≤ maxLen) (hL : l.length ≤ maxLen ∧ ∀ y ∈ l, VFunc y) (b1_0 : ti_0.length ≤ maxLen ∧ ∀ y ∈ ti_0, VFrame y) (b1_1 : ti_1.length ≤ maxLen ∧ ∀ y ∈ ti_1, VRec y) (b1_2 : (Lit.int .i64 ti_2).wf = true) (b1_3 : ti_3.length ≤ maxLen ∧ ∀ y ∈ ti_3, y.size ≤ maxLen) (b1_4 : (Lit.int .i64 ti_4).wf = true) (b1_5 : (Lit.int .i64 ti_5).wf = true) (b1_6 : (Lit.int .i64 ti_6).wf = true) (b1_7 : (Lit.int .i64 ti_7).wf = true) (b1_8 : ti_8.size ≤ maxLen) (b1_9 : (Lit.int .i64 ti_9).wf = true) (b1_10 : ti_10.length ≤ maxLen ∧ ∀ y ∈ ti_10, VSite y) (b1_11 : ti_11.length ≤ maxLen ∧ ∀ y ∈ ti_11, VFast y) (b1_12 : ti_12.length ≤ maxLen ∧ ∀ y ∈ ti_12, VFail y) (b1_13 : (Lit.int .i64 ti_13).wf = true) (b1_14 : (Lit.int .i64 ti_14).wf = true) : Calls Tryz.prog 4 #[.agg #[.slice A t.length c, .slice B l.length d], .agg #[.slice A1_0 ti_0.length c1_0, .slice A1_1 ti_1.length c1_1, .int .i64 ti_2, .slice A1_3 ti_3.length c1_3, .int .i64 ti_4, .int .i64 ti_5, .int .i64 ti_6, .int .i64 ti_7, .string ti_8, .int .i64 ti_9, .slice A1_10 ti_10.length c1_10, .slice A1_11 ti_11.length c1_11, .slice A1_12 ti_12.length c1_12, .int .i64 ti_13, .int .i64 ti_14]] w fun e w' => e = .returned (.bool true) ∧ Below w.heap.size w w' := lawxTierOk t l (⟨⟨ti_0, ti_1, ti_2, ti_3, ti_4, ti_5, ⟨ti_6, ti_7, ti_8⟩, ti_9⟩, ti_10, ti_11, ti_12, ti_13, ti_14⟩ : DTier) w ht0 h_t hr0 h_l hr1_0 h_1_0 hr1_1 h_1_1 hr1_3 h_1_3 hr1_10 h_1_10 hr1_11 h_1_11 hr1_12 h_1_12 hT hL ⟨⟨b1_0, b1_1, b1_2, b1_3, b1_4, b1_5, ⟨b1_6, b1_7, b1_8⟩, b1_9⟩, b1_10, b1_11, b1_12, b1_13, b1_14⟩
end Go.Proofs.YthinhlcfpaaldaaGreat.Dat
