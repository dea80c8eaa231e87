/- The walk of the law of ExitHolds. Written by a program (lawg.py). -/
import Derived.Test.YthinhlcfpaaldaaGreatK3
import Derived.Test.YthinhlcfpaaldaaGreatK4
import Derived.Test.YthinhlcfpaaldaaGreatGoX
import Derived.Test.YthinhlcfpaaldaaGreatCapA
import Derived.Test.YthinhlcfpaaldaaGreatGFast
namespace Go.Proofs.YthinhlcfpaaldaaGreat.Dat
open Go Go.RowKit Go.Proofs.YthinhlcfpaaldaaGreat.Mem
set_option linter.unusedVariables false
set_option linter.unusedSimpArgs false
set_option maxHeartbeats 8000000 in
set_option maxRecDepth 100000 in
theorem lawxExitHolds (t : List ByteArray) (l : List DFunc) (fa : DFast) (x : Int) (vm : DVm) (w : World) {A B : Option Addr} {c d : Nat} {A1_4 : Option Addr} {c1_4 : Nat} {A1_5 : Option Addr} {c1_5 : Nat} {A3_0 : Option Addr} {c3_0 : Nat} {A3_1 : Option Addr} {c3_1 : Nat} {A3_3 : Option Addr} {c3_3 : Nat} (ht0 : Knd.str.Row w A t.length t) (_ : t.length ≤ c) (hr0 : kFunc.Row w B l.length l) (_ : l.length ≤ d) (hr1_4 : kFOp.Row w A1_4 fa.ops.length fa.ops) (_ : fa.ops.length ≤ c1_4) (hr1_5 : kExit.Row w A1_5 fa.exits.length fa.exits) (_ : fa.exits.length ≤ c1_5) (hr3_0 : kFrame.Row w A3_0 vm.frames.length vm.frames) (_ : vm.frames.length ≤ c3_0) (hr3_1 : kRec.Row w A3_1 vm.heap.length vm.heap) (_ : vm.heap.length ≤ c3_1) (hr3_3 : Knd.str.Row w A3_3 vm.out.length vm.out) (_ : vm.out.length ≤ c3_3) (hT : t.length ≤ maxLen ∧ ∀ y ∈ t, y.size ≤ maxLen) (hL : l.length ≤ maxLen ∧ ∀ y ∈ l, VFunc y) (hV1 : VFast fa) (hw2 : (Lit.int .i64 x).wf = true) (hV3 : VVm vm) : Calls Tryz.prog 10 #[.agg #[.slice A t.length c, .slice B l.length d], .agg #[.int .i64 fa.fn, .int .i64 fa.entry, .int .i64 fa.vals, .int .i64 fa.nums, .slice A1_4 fa.ops.length c1_4, .slice A1_5 fa.exits.length c1_5], .int .i64 x, .agg #[.slice A3_0 vm.frames.length c3_0, .slice A3_1 vm.heap.length c3_1, .int .i64 vm.made, .slice A3_3 vm.out.length c3_3, .int .i64 vm.status, .int .i64 vm.trap, .int .i64 vm.value.k, .int .i64 vm.value.n, .string vm.value.s, .int .i64 vm.steps]] w fun e w' => e = .returned (.bool true) ∧ Below w.heap.size w w' := by
  by_cases z0 : ((szMod t l : Nat) : Int) ≤ (1048576 : Int)
  rotate_left
  · skip
    have Z0 := szModule A B c d t l (1048576)
    rw [lft_gt (by omega)] at Z0
    have hS := (St.start w).made (.cells #[.slice A t.length c, .slice B l.length d] 25 (0, 0))
    replace hS := hS.madeAt (.cells #[.int .i64 fa.fn, .int .i64 fa.entry, .int .i64 fa.vals, .int .i64 fa.nums, .slice A1_4 fa.ops.length c1_4, .slice A1_5 fa.exits.length c1_5] 29 (0, 0)) (w.heap.size + 1) (by simp)
    replace hS := hS.madeAt (.cells #[.slice A3_0 vm.frames.length c3_0, .slice A3_1 vm.heap.length c3_1, .int .i64 vm.made, .slice A3_3 vm.out.length c3_3, .int .i64 vm.status, .int .i64 vm.trap, .int .i64 vm.value.k, .int .i64 vm.value.n, .string vm.value.s, .int .i64 vm.steps] 55 (0, 0)) (w.heap.size + 2) (by simp)
    go_enter Tryz.func10, Tryz.ntmps10
    go_wp2_with fail
    refine (Z0 _ (ht0.below hS.bel) (hr0.below hS.bel) hT.1 hL.1 hT.2 (fun x h => (hL.2 x h).2.2.1) (by omega) (by omega)).mono ?_
    rintro e w1 ⟨rfl, hb⟩
    try clear x_P0
    try clear x_P1
    try clear x_P3
    replace hS := hS.step hb
    clear hb
    have x_P0 := hS.cell 2 rfl
    have x_P1 := hS.cell 1 rfl
    have x_P3 := hS.cell 0 rfl
    go_wp2
    go_ret
    exact ⟨rfl, hS.bel⟩
  by_cases z1 : ((msFast fa : Nat) : Int) ≤ (1048576 - ((szMod t l : Nat) : Int) : Int)
  rotate_left
  · skip
    have Z0 := szModule A B c d t l (1048576)
    rw [lft_le z0] at Z0
    have g0 : 0 ≤ 1048576 - ((szMod t l : Nat) : Int) := by omega
    have Z1 := szFast_c A1_4 A1_5 c1_4 c1_5 fa (1048576 - ((szMod t l : Nat) : Int))
    rw [lft_gt (by omega)] at Z1
    have hS := (St.start w).made (.cells #[.slice A t.length c, .slice B l.length d] 25 (0, 0))
    replace hS := hS.madeAt (.cells #[.int .i64 fa.fn, .int .i64 fa.entry, .int .i64 fa.vals, .int .i64 fa.nums, .slice A1_4 fa.ops.length c1_4, .slice A1_5 fa.exits.length c1_5] 29 (0, 0)) (w.heap.size + 1) (by simp)
    replace hS := hS.madeAt (.cells #[.slice A3_0 vm.frames.length c3_0, .slice A3_1 vm.heap.length c3_1, .int .i64 vm.made, .slice A3_3 vm.out.length c3_3, .int .i64 vm.status, .int .i64 vm.trap, .int .i64 vm.value.k, .int .i64 vm.value.n, .string vm.value.s, .int .i64 vm.steps] 55 (0, 0)) (w.heap.size + 2) (by simp)
    go_enter Tryz.func10, Tryz.ntmps10
    go_wp2_with fail
    refine (Z0 _ (ht0.below hS.bel) (hr0.below hS.bel) hT.1 hL.1 hT.2 (fun x h => (hL.2 x h).2.2.1) (by omega) (by omega)).mono ?_
    rintro e w1 ⟨rfl, hb⟩
    try clear x_P0
    try clear x_P1
    try clear x_P3
    replace hS := hS.step hb
    clear hb
    have x_P0 := hS.cell 2 rfl
    have x_P1 := hS.cell 1 rfl
    have x_P3 := hS.cell 0 rfl
    go_wp2_with fail
    refine (Z1 _ (hr1_4.below hS.bel) (hr1_5.below hS.bel) hV1 (by omega) (by omega)).mono ?_
    rintro e w2 ⟨rfl, hb⟩
    try clear x_P0
    try clear x_P1
    try clear x_P3
    replace hS := hS.step hb
    clear hb
    have x_P0 := hS.cell 2 rfl
    have x_P1 := hS.cell 1 rfl
    have x_P3 := hS.cell 0 rfl
    go_wp2
    go_ret
    exact ⟨rfl, hS.bel⟩
  by_cases z2 : ((msVm vm : Nat) : Int) ≤ (1048576 - ((szMod t l : Nat) : Int) - ((msFast fa : Nat) : Int) : Int)
  rotate_left
  · skip
    have Z0 := szModule A B c d t l (1048576)
    rw [lft_le z0] at Z0
    have g0 : 0 ≤ 1048576 - ((szMod t l : Nat) : Int) := by omega
    have Z1 := szFast_c A1_4 A1_5 c1_4 c1_5 fa (1048576 - ((szMod t l : Nat) : Int))
    rw [lft_le z1] at Z1
    have g1 : 0 ≤ 1048576 - ((szMod t l : Nat) : Int) - ((msFast fa : Nat) : Int) := by omega
    have Z2 := szVm_c A3_0 A3_1 A3_3 c3_0 c3_1 c3_3 vm (1048576 - ((szMod t l : Nat) : Int) - ((msFast fa : Nat) : Int))
    rw [lft_gt (by omega)] at Z2
    have hS := (St.start w).made (.cells #[.slice A t.length c, .slice B l.length d] 25 (0, 0))
    replace hS := hS.madeAt (.cells #[.int .i64 fa.fn, .int .i64 fa.entry, .int .i64 fa.vals, .int .i64 fa.nums, .slice A1_4 fa.ops.length c1_4, .slice A1_5 fa.exits.length c1_5] 29 (0, 0)) (w.heap.size + 1) (by simp)
    replace hS := hS.madeAt (.cells #[.slice A3_0 vm.frames.length c3_0, .slice A3_1 vm.heap.length c3_1, .int .i64 vm.made, .slice A3_3 vm.out.length c3_3, .int .i64 vm.status, .int .i64 vm.trap, .int .i64 vm.value.k, .int .i64 vm.value.n, .string vm.value.s, .int .i64 vm.steps] 55 (0, 0)) (w.heap.size + 2) (by simp)
    go_enter Tryz.func10, Tryz.ntmps10
    go_wp2_with fail
    refine (Z0 _ (ht0.below hS.bel) (hr0.below hS.bel) hT.1 hL.1 hT.2 (fun x h => (hL.2 x h).2.2.1) (by omega) (by omega)).mono ?_
    rintro e w1 ⟨rfl, hb⟩
    try clear x_P0
    try clear x_P1
    try clear x_P3
    replace hS := hS.step hb
    clear hb
    have x_P0 := hS.cell 2 rfl
    have x_P1 := hS.cell 1 rfl
    have x_P3 := hS.cell 0 rfl
    go_wp2_with fail
    refine (Z1 _ (hr1_4.below hS.bel) (hr1_5.below hS.bel) hV1 (by omega) (by omega)).mono ?_
    rintro e w2 ⟨rfl, hb⟩
    try clear x_P0
    try clear x_P1
    try clear x_P3
    replace hS := hS.step hb
    clear hb
    have x_P0 := hS.cell 2 rfl
    have x_P1 := hS.cell 1 rfl
    have x_P3 := hS.cell 0 rfl
    go_wp2_with fail
    refine (Z2 _ (hr3_0.below hS.bel) (hr3_1.below hS.bel) (hr3_3.below hS.bel) hV3 (by omega) (by omega)).mono ?_
    rintro e w3 ⟨rfl, hb⟩
    try clear x_P0
    try clear x_P1
    try clear x_P3
    replace hS := hS.step hb
    clear hb
    have x_P0 := hS.cell 2 rfl
    have x_P1 := hS.cell 1 rfl
    have x_P3 := hS.cell 0 rfl
    go_wp2
    go_ret
    exact ⟨rfl, hS.bel⟩
  have Z0 := szModule A B c d t l (1048576)
  rw [lft_le z0] at Z0
  have g0 : 0 ≤ 1048576 - ((szMod t l : Nat) : Int) := by omega
  have Z1 := szFast_c A1_4 A1_5 c1_4 c1_5 fa (1048576 - ((szMod t l : Nat) : Int))
  rw [lft_le z1] at Z1
  have g1 : 0 ≤ 1048576 - ((szMod t l : Nat) : Int) - ((msFast fa : Nat) : Int) := by omega
  have Z2 := szVm_c A3_0 A3_1 A3_3 c3_0 c3_1 c3_3 vm (1048576 - ((szMod t l : Nat) : Int) - ((msFast fa : Nat) : Int))
  rw [lft_le z2] at Z2
  have g2 : 0 ≤ 1048576 - ((szMod t l : Nat) : Int) - ((msFast fa : Nat) : Int) - ((msVm vm : Nat) : Int) := by omega
  obtain ⟨htm, hm, hv⟩ := szMod_small z0
  have hv2 : ∀ x ∈ l, x.code.length ≤ 1048576 ∧ -9223372036854775808 ≤ x.locals ∧ x.locals ≤ 9223372036854775807 := fun x h => ⟨hv x h, wf_lo (hL.2 x h).2.1, wf_hi (hL.2 x h).2.1⟩
  have hlen1 := MFast_of (x := fa) (by omega)
  have hlen3 := MVm_of (x := vm) (by omega)
  have hmc : msFast fa ≤ 1048576 := by omega
  have hS := (St.start w).made (.cells #[.slice A t.length c, .slice B l.length d] 25 (0, 0))
  replace hS := hS.madeAt (.cells #[.int .i64 fa.fn, .int .i64 fa.entry, .int .i64 fa.vals, .int .i64 fa.nums, .slice A1_4 fa.ops.length c1_4, .slice A1_5 fa.exits.length c1_5] 29 (0, 0)) (w.heap.size + 1) (by simp)
  replace hS := hS.madeAt (.cells #[.slice A3_0 vm.frames.length c3_0, .slice A3_1 vm.heap.length c3_1, .int .i64 vm.made, .slice A3_3 vm.out.length c3_3, .int .i64 vm.status, .int .i64 vm.trap, .int .i64 vm.value.k, .int .i64 vm.value.n, .string vm.value.s, .int .i64 vm.steps] 55 (0, 0)) (w.heap.size + 2) (by simp)
  go_enter Tryz.func10, Tryz.ntmps10
  go_wp2_with fail
  refine (Z0 _ (ht0.below hS.bel) (hr0.below hS.bel) hT.1 hL.1 hT.2 (fun x h => (hL.2 x h).2.2.1) (by omega) (by omega)).mono ?_
  rintro e w1 ⟨rfl, hb⟩
  try clear x_P0
  try clear x_P1
  try clear x_P3
  replace hS := hS.step hb
  clear hb
  have x_P0 := hS.cell 2 rfl
  have x_P1 := hS.cell 1 rfl
  have x_P3 := hS.cell 0 rfl
  go_wp2_with fail
  refine (Z1 _ (hr1_4.below hS.bel) (hr1_5.below hS.bel) hV1 (by omega) (by omega)).mono ?_
  rintro e w2 ⟨rfl, hb⟩
  try clear x_P0
  try clear x_P1
  try clear x_P3
  replace hS := hS.step hb
  clear hb
  have x_P0 := hS.cell 2 rfl
  have x_P1 := hS.cell 1 rfl
  have x_P3 := hS.cell 0 rfl
  go_wp2_with fail
  refine (Z2 _ (hr3_0.below hS.bel) (hr3_1.below hS.bel) (hr3_3.below hS.bel) hV3 (by omega) (by omega)).mono ?_
  rintro e w3 ⟨rfl, hb⟩
  try clear x_P0
  try clear x_P1
  try clear x_P3
  replace hS := hS.step hb
  clear hb
  have x_P0 := hS.cell 2 rfl
  have x_P1 := hS.cell 1 rfl
  have x_P3 := hS.cell 0 rfl
  go_wp2
  try clear x_P0
  try clear x_P1
  try clear x_P3
  replace hS := hS.drew
  refine wp_region_held_drew (S := (fun w' => w'.cell? ⟨w.heap.size, 0, none⟩ = some (.slice A t.length c) ∧ w'.cell? ⟨w.heap.size, 1, none⟩ = some (.slice B l.length d) ∧ w'.cell? ⟨w.heap.size + 1, 0, none⟩ = some (.int .i64 fa.fn) ∧ w'.cell? ⟨w.heap.size + 1, 1, none⟩ = some (.int .i64 fa.entry) ∧ w'.cell? ⟨w.heap.size + 1, 2, none⟩ = some (.int .i64 fa.vals) ∧ w'.cell? ⟨w.heap.size + 1, 3, none⟩ = some (.int .i64 fa.nums) ∧ w'.cell? ⟨w.heap.size + 1, 4, none⟩ = some (.slice A1_4 fa.ops.length c1_4) ∧ w'.cell? ⟨w.heap.size + 1, 5, none⟩ = some (.slice A1_5 fa.exits.length c1_5) ∧ w'.cell? ⟨w.heap.size + 2, 0, none⟩ = some (.slice A3_0 vm.frames.length c3_0) ∧ w'.cell? ⟨w.heap.size + 2, 1, none⟩ = some (.slice A3_1 vm.heap.length c3_1) ∧ w'.cell? ⟨w.heap.size + 2, 2, none⟩ = some (.int .i64 vm.made) ∧ w'.cell? ⟨w.heap.size + 2, 3, none⟩ = some (.slice A3_3 vm.out.length c3_3) ∧ w'.cell? ⟨w.heap.size + 2, 4, none⟩ = some (.int .i64 vm.status) ∧ w'.cell? ⟨w.heap.size + 2, 5, none⟩ = some (.int .i64 vm.trap) ∧ w'.cell? ⟨w.heap.size + 2, 6, none⟩ = some (.int .i64 vm.value.k) ∧ w'.cell? ⟨w.heap.size + 2, 7, none⟩ = some (.int .i64 vm.value.n) ∧ w'.cell? ⟨w.heap.size + 2, 8, none⟩ = some (.string vm.value.s) ∧ w'.cell? ⟨w.heap.size + 2, 9, none⟩ = some (.int .i64 vm.steps))) (by kernel_rfl) (⟨hS.cell 2 rfl 0, hS.cell 2 rfl 1, hS.cell 1 rfl 0, hS.cell 1 rfl 1, hS.cell 1 rfl 2, hS.cell 1 rfl 3, hS.cell 1 rfl 4, hS.cell 1 rfl 5, hS.cell 0 rfl 0, hS.cell 0 rfl 1, hS.cell 0 rfl 2, hS.cell 0 rfl 3, hS.cell 0 rfl 4, hS.cell 0 rfl 5, hS.cell 0 rfl 6, hS.cell 0 rfl 7, hS.cell 0 rfl 8, hS.cell 0 rfl 9⟩) (fun hHeld => ?_)
  (first | refine rQ1 ?_ | refine rQ2 ?_); (try simp only [pP]); (first | refine rW 2 ?_ | refine rV 2 ?_); (try simp only [pP]); (first | refine rW 4 ?_ | refine rV 4 ?_); (try simp only [pP]); (first | refine rW 5 ?_ | refine rV 5 ?_); (try simp only [pP])
  refine regC 1 rfl (by kernel_rfl) (by rfl) (fun Kq hKq => ?_)
  go_simp
  (with_reducible refine (toModule _ _ _ _ t l _ (ht0.below hS.bel) (hr0.below hS.bel) htm hm hv).mono ?_)
  rintro e w4 ⟨v, u, F4, G4, rfl, hot, hor, hnd, hF, hb⟩; replace hS := St.newMod hS hot hor hnd hF hb; clear hot hor hnd hF hb; obtain ⟨A4, c4, B4, d4, rfl, rfl, _, _⟩ := St.modR hS 0 rfl
  try go_wp2_with fail
  refine hKq.out _ _ (⟨hS.cell 3 rfl 0, hS.cell 3 rfl 1, hS.cell 2 rfl 0, hS.cell 2 rfl 1, hS.cell 2 rfl 2, hS.cell 2 rfl 3, hS.cell 2 rfl 4, hS.cell 2 rfl 5, hS.cell 1 rfl 0, hS.cell 1 rfl 1, hS.cell 1 rfl 2, hS.cell 1 rfl 3, hS.cell 1 rfl 4, hS.cell 1 rfl 5, hS.cell 1 rfl 6, hS.cell 1 rfl 7, hS.cell 1 rfl 8, hS.cell 1 rfl 9⟩) (fun hHeld => ?_)
  clear hKq Kq
  (try simp only [pP])
  refine regC 3 rfl (by kernel_rfl) (by rfl) (fun Kq hKq => ?_)
  go_simp
  (with_reducible refine (toFast_c _ _ _ _ fa _ (hr1_4.below hS.bel) (hr1_5.below hS.bel) hlen1).mono ?_)
  rintro e w5 ⟨v5_4, v5_5, F5_4, F5_5, rfl, hSx⟩; replace hS := hS.join hSx; clear hSx; obtain ⟨A5_4, c5_4, rfl, _, _⟩ := hS.row 0 rfl; obtain ⟨A5_5, c5_5, rfl, _, _⟩ := hS.row 1 rfl
  try go_wp2_with fail
  refine hKq.out _ _ (⟨hS.cell 5 rfl 0, hS.cell 5 rfl 1, hS.cell 4 rfl 0, hS.cell 4 rfl 1, hS.cell 4 rfl 2, hS.cell 4 rfl 3, hS.cell 4 rfl 4, hS.cell 4 rfl 5, hS.cell 3 rfl 0, hS.cell 3 rfl 1, hS.cell 3 rfl 2, hS.cell 3 rfl 3, hS.cell 3 rfl 4, hS.cell 3 rfl 5, hS.cell 3 rfl 6, hS.cell 3 rfl 7, hS.cell 3 rfl 8, hS.cell 3 rfl 9⟩) (fun hHeld => ?_)
  clear hKq Kq
  (try simp only [pP])
  refine regC 6 rfl (by kernel_rfl) (by rfl) (fun Kq hKq => ?_)
  go_simp
  (with_reducible refine (toVm_c _ _ _ _ _ _ vm _ (hr3_0.below hS.bel) (hr3_1.below hS.bel) (hr3_3.below hS.bel) hlen3).mono ?_)
  rintro e w6 ⟨v6_0, v6_1, v6_3, F6_0, F6_1, F6_3, rfl, hSx⟩; replace hS := hS.join hSx; clear hSx; obtain ⟨A6_0, c6_0, rfl, _, _⟩ := hS.row 0 rfl; obtain ⟨A6_1, c6_1, rfl, _, _⟩ := hS.row 1 rfl; obtain ⟨A6_3, c6_3, rfl, _, _⟩ := hS.row 2 rfl
  try go_wp2_with fail
  refine hKq.out _ _ (⟨hS.cell 8 rfl 0, hS.cell 8 rfl 1, hS.cell 7 rfl 0, hS.cell 7 rfl 1, hS.cell 7 rfl 2, hS.cell 7 rfl 3, hS.cell 7 rfl 4, hS.cell 7 rfl 5, hS.cell 6 rfl 0, hS.cell 6 rfl 1, hS.cell 6 rfl 2, hS.cell 6 rfl 3, hS.cell 6 rfl 4, hS.cell 6 rfl 5, hS.cell 6 rfl 6, hS.cell 6 rfl 7, hS.cell 6 rfl 8, hS.cell 6 rfl 9⟩) (fun hHeld => ?_)
  clear hKq Kq
  (try simp only [pP])
  refine regC 7 rfl (by kernel_rfl) (by rfl) (fun Kq hKq => ?_)
  go_simp
  (with_reducible refine (holds3 _ _ _ _ _ _ _ _ _ _ _ _ _ _ t l fa x vm _ ⟨(St.modA hS 5 rfl).1, (St.modA hS 5 rfl).2, htm, hm, hT.2, hv2⟩ (St.rowA hS 3 rfl) (St.rowA hS 4 rfl) hlen1 hmc (St.capA hS 0 rfl) (St.rowA hS 0 rfl) (St.rowA hS 1 rfl) (St.rowA hS 2 rfl) hlen3 rfl).mono ?_)
  rintro e w7 ⟨rfl, hb⟩; replace hS := hS.step hb; clear hb
  try go_wp2_with fail
  refine hKq.out _ _ (⟨hS.cell 8 rfl 0, hS.cell 8 rfl 1, hS.cell 7 rfl 0, hS.cell 7 rfl 1, hS.cell 7 rfl 2, hS.cell 7 rfl 3, hS.cell 7 rfl 4, hS.cell 7 rfl 5, hS.cell 6 rfl 0, hS.cell 6 rfl 1, hS.cell 6 rfl 2, hS.cell 6 rfl 3, hS.cell 6 rfl 4, hS.cell 6 rfl 5, hS.cell 6 rfl 6, hS.cell 6 rfl 7, hS.cell 6 rfl 8, hS.cell 6 rfl 9⟩) (fun hHeld => ?_)
  clear hKq Kq
  (try simp only [pP])
  (first | refine rQ1 ?_ | refine rQ2 ?_); (try simp only [pP])
  refine wpAnyH_done (by kernel_rfl) ?_ _
  clear hHeld
  have x_P0 := hS.cell 8 rfl
  have x_P1 := hS.cell 7 rfl
  have x_P3 := hS.cell 6 rfl
  go_wp2_with fail
  refine (toModule _ _ _ _ t l _ (ht0.below hS.bel) (hr0.below hS.bel) htm hm hv).mono ?_
  rintro e w8 ⟨v, u, F8, G8, rfl, hot, hor, hnd, hF, hb⟩
  try clear x_P0
  try clear x_P1
  try clear x_P3
  replace hS := St.newMod hS hot hor hnd hF hb
  clear hot hor hnd hF hb
  obtain ⟨A8, c8, B8, d8, rfl, rfl, _, _⟩ := St.modR hS 0 rfl
  have x_P0 := hS.cell 9 rfl
  have x_P1 := hS.cell 8 rfl
  have x_P3 := hS.cell 7 rfl
  try clear x_P0
  try clear x_P1
  try clear x_P3
  try clear x_b9
  replace hS := hS.made (.cells #[.slice A8 t.length c8, .slice B8 l.length d8] 36 (0, 0))
  have x_P0 := hS.cell 10 rfl
  have x_P1 := hS.cell 9 rfl
  have x_P3 := hS.cell 8 rfl
  have x_b9 := hS.cell 0 rfl
  go_wp2_with fail
  refine (toFast_c _ _ _ _ fa _ (hr1_4.below hS.bel) (hr1_5.below hS.bel) hlen1).mono ?_
  rintro e w10 ⟨v10_4, v10_5, F10_4, F10_5, rfl, hSx⟩
  try clear x_P0
  try clear x_P1
  try clear x_P3
  try clear x_b9
  replace hS := hS.join hSx
  clear hSx
  obtain ⟨A10_4, c10_4, rfl, _, _⟩ := hS.row 0 rfl
  obtain ⟨A10_5, c10_5, rfl, _, _⟩ := hS.row 1 rfl
  try dsimp only [List.set_cons_succ, List.set_cons_zero, List.cons_append, List.nil_append, List.eraseIdx_cons_succ, List.eraseIdx_cons_zero] at hS
  have x_P0 := hS.cell 12 rfl
  have x_P1 := hS.cell 11 rfl
  have x_P3 := hS.cell 10 rfl
  have x_b9 := hS.cell 2 rfl
  try clear x_P0
  try clear x_P1
  try clear x_P3
  try clear x_b9
  try clear x_b11
  replace hS := hS.made (.cells #[.int .i64 fa.fn, .int .i64 fa.entry, .int .i64 fa.vals, .int .i64 fa.nums, .slice A10_4 fa.ops.length c10_4, .slice A10_5 fa.exits.length c10_5] 41 (0, 0))
  have x_P0 := hS.cell 13 rfl
  have x_P1 := hS.cell 12 rfl
  have x_P3 := hS.cell 11 rfl
  have x_b9 := hS.cell 3 rfl
  have x_b11 := hS.cell 0 rfl
  go_wp2_with fail
  refine (toVm_c _ _ _ _ _ _ vm _ (hr3_0.below hS.bel) (hr3_1.below hS.bel) (hr3_3.below hS.bel) hlen3).mono ?_
  rintro e w12 ⟨v12_0, v12_1, v12_3, F12_0, F12_1, F12_3, rfl, hSx⟩
  try clear x_P0
  try clear x_P1
  try clear x_P3
  try clear x_b9
  try clear x_b11
  replace hS := hS.join hSx
  clear hSx
  obtain ⟨A12_0, c12_0, rfl, _, _⟩ := hS.row 0 rfl
  obtain ⟨A12_1, c12_1, rfl, _, _⟩ := hS.row 1 rfl
  obtain ⟨A12_3, c12_3, rfl, _, _⟩ := hS.row 2 rfl
  try dsimp only [List.set_cons_succ, List.set_cons_zero, List.cons_append, List.nil_append, List.eraseIdx_cons_succ, List.eraseIdx_cons_zero] at hS
  have x_P0 := hS.cell 16 rfl
  have x_P1 := hS.cell 15 rfl
  have x_P3 := hS.cell 14 rfl
  have x_b9 := hS.cell 6 rfl
  have x_b11 := hS.cell 3 rfl
  try clear x_P0
  try clear x_P1
  try clear x_P3
  try clear x_b9
  try clear x_b11
  try clear x_b13
  replace hS := hS.made (.cells #[.slice A12_0 vm.frames.length c12_0, .slice A12_1 vm.heap.length c12_1, .int .i64 vm.made, .slice A12_3 vm.out.length c12_3, .int .i64 vm.status, .int .i64 vm.trap, .int .i64 vm.value.k, .int .i64 vm.value.n, .string vm.value.s, .int .i64 vm.steps] 67 (0, 0))
  have x_P0 := hS.cell 17 rfl
  have x_P1 := hS.cell 16 rfl
  have x_P3 := hS.cell 15 rfl
  have x_b9 := hS.cell 7 rfl
  have x_b11 := hS.cell 4 rfl
  have x_b13 := hS.cell 0 rfl
  go_wp2_with fail
  refine (holdsI _ _ _ _ _ _ _ _ _ _ _ _ _ _ t l fa x vm _ ⟨(St.modA hS 8 rfl).1, (St.modA hS 8 rfl).2, htm, hm, hT.2, hv2⟩ (St.rowA hS 5 rfl) (St.rowA hS 6 rfl) hlen1 hmc (St.capA hS 1 rfl) (St.rowA hS 1 rfl) (St.rowA hS 2 rfl) (St.rowA hS 3 rfl) hlen3 rfl).mono ?_
  rintro e w14 ⟨rfl, hb⟩
  try clear x_P0
  try clear x_P1
  try clear x_P3
  try clear x_b9
  try clear x_b11
  try clear x_b13
  replace hS := hS.step hb
  clear hb
  have x_P0 := hS.cell 17 rfl
  have x_P1 := hS.cell 16 rfl
  have x_P3 := hS.cell 15 rfl
  have x_b9 := hS.cell 7 rfl
  have x_b11 := hS.cell 4 rfl
  have x_b13 := hS.cell 0 rfl
  as_aux_lemma =>
    go_wp2
    try clear x_P0
    try clear x_P1
    try clear x_P3
    try clear x_b9
    try clear x_b11
    try clear x_b13
    replace hS := hS.drew
    refine wp_region_held_drew (S := (fun w' => w'.cell? ⟨w8.heap.size, 0, none⟩ = some (.slice A8 t.length c8) ∧ w'.cell? ⟨w8.heap.size, 1, none⟩ = some (.slice B8 l.length d8) ∧ w'.cell? ⟨w.heap.size, 0, none⟩ = some (.slice A t.length c) ∧ w'.cell? ⟨w.heap.size, 1, none⟩ = some (.slice B l.length d))) (by kernel_rfl) (⟨hS.cell 7 rfl 0, hS.cell 7 rfl 1, hS.cell 17 rfl 0, hS.cell 17 rfl 1⟩) (fun hHeld => ?_)
    (iterate 2 (first | refine rQ1 ?_ | refine rQ2 ?_); try simp only [pP])
    refine regC 2 rfl (by kernel_rfl) (by rfl) (fun Kq hKq => ?_)
    go_simp
    (with_reducible refine (toModule _ _ _ _ t l _ (ht0.below hS.bel) (hr0.below hS.bel) htm hm hv).mono ?_)
    rintro e w15 ⟨v, u, F15, G15, rfl, hot, hor, hnd, hF, hb⟩; replace hS := St.newMod hS hot hor hnd hF hb; clear hot hor hnd hF hb; obtain ⟨A15, c15, B15, d15, rfl, rfl, _, _⟩ := St.modR hS 0 rfl
    try go_wp2_with fail
    refine hKq.out _ _ (⟨hS.cell 8 rfl 0, hS.cell 8 rfl 1, hS.cell 18 rfl 0, hS.cell 18 rfl 1⟩) (fun hHeld => ?_)
    clear hKq Kq
    (try simp only [pP])
    refine regC 3 rfl (by kernel_rfl) (by rfl) (fun Kq hKq => ?_)
    go_simp
    (with_reducible refine (eqModule _ _ _ _ _ _ _ _ t l _ (St.modA hS 9 rfl).1 (St.modA hS 9 rfl).2 (St.modA hS 0 rfl).1 (St.modA hS 0 rfl).2).mono ?_)
    rintro e w16 ⟨rfl, hb⟩; replace hS := hS.step hb; clear hb
    try go_wp2_with fail
    refine hKq.out _ _ (⟨hS.cell 8 rfl 0, hS.cell 8 rfl 1, hS.cell 18 rfl 0, hS.cell 18 rfl 1⟩) (fun hHeld => ?_)
    clear hKq Kq
    (try simp only [pP])
    (first | refine rQ1 ?_ | refine rQ2 ?_); (try simp only [pP])
    refine wpAnyH_done (by kernel_rfl) ?_ _
    clear hHeld
    have x_P0 := hS.cell 18 rfl
    have x_P1 := hS.cell 17 rfl
    have x_P3 := hS.cell 16 rfl
    have x_b9 := hS.cell 8 rfl
    have x_b11 := hS.cell 5 rfl
    have x_b13 := hS.cell 1 rfl
    go_wp2
    try clear x_P0
    try clear x_P1
    try clear x_P3
    try clear x_b9
    try clear x_b11
    try clear x_b13
    replace hS := hS.drew
    refine wp_region_held_drew (S := (fun w' => w'.cell? ⟨w10.heap.size, 0, none⟩ = some (.int .i64 fa.fn) ∧ w'.cell? ⟨w10.heap.size, 1, none⟩ = some (.int .i64 fa.entry) ∧ w'.cell? ⟨w10.heap.size, 2, none⟩ = some (.int .i64 fa.vals) ∧ w'.cell? ⟨w10.heap.size, 3, none⟩ = some (.int .i64 fa.nums) ∧ w'.cell? ⟨w10.heap.size, 4, none⟩ = some (.slice A10_4 fa.ops.length c10_4) ∧ w'.cell? ⟨w10.heap.size, 5, none⟩ = some (.slice A10_5 fa.exits.length c10_5) ∧ w'.cell? ⟨w.heap.size + 1, 0, none⟩ = some (.int .i64 fa.fn) ∧ w'.cell? ⟨w.heap.size + 1, 1, none⟩ = some (.int .i64 fa.entry) ∧ w'.cell? ⟨w.heap.size + 1, 2, none⟩ = some (.int .i64 fa.vals) ∧ w'.cell? ⟨w.heap.size + 1, 3, none⟩ = some (.int .i64 fa.nums) ∧ w'.cell? ⟨w.heap.size + 1, 4, none⟩ = some (.slice A1_4 fa.ops.length c1_4) ∧ w'.cell? ⟨w.heap.size + 1, 5, none⟩ = some (.slice A1_5 fa.exits.length c1_5))) (by kernel_rfl) (⟨hS.cell 5 rfl 0, hS.cell 5 rfl 1, hS.cell 5 rfl 2, hS.cell 5 rfl 3, hS.cell 5 rfl 4, hS.cell 5 rfl 5, hS.cell 17 rfl 0, hS.cell 17 rfl 1, hS.cell 17 rfl 2, hS.cell 17 rfl 3, hS.cell 17 rfl 4, hS.cell 17 rfl 5⟩) (fun hHeld => ?_)
    (iterate 2 (first | refine rQ1 ?_ | refine rQ2 ?_); try simp only [pP])
    refine regC 2 rfl (by kernel_rfl) (by rfl) (fun Kq hKq => ?_)
    go_simp
    (with_reducible refine (toFast_c _ _ _ _ fa _ (hr1_4.below hS.bel) (hr1_5.below hS.bel) hlen1).mono ?_)
    rintro e w17 ⟨v17_4, v17_5, F17_4, F17_5, rfl, hSx⟩; replace hS := hS.join hSx; clear hSx; obtain ⟨A17_4, c17_4, rfl, _, _⟩ := hS.row 0 rfl; obtain ⟨A17_5, c17_5, rfl, _, _⟩ := hS.row 1 rfl
    try go_wp2_with fail
    refine hKq.out _ _ (⟨hS.cell 7 rfl 0, hS.cell 7 rfl 1, hS.cell 7 rfl 2, hS.cell 7 rfl 3, hS.cell 7 rfl 4, hS.cell 7 rfl 5, hS.cell 19 rfl 0, hS.cell 19 rfl 1, hS.cell 19 rfl 2, hS.cell 19 rfl 3, hS.cell 19 rfl 4, hS.cell 19 rfl 5⟩) (fun hHeld => ?_)
    clear hKq Kq
    (try simp only [pP])
    refine regC 3 rfl (by kernel_rfl) (by rfl) (fun Kq hKq => ?_)
    go_simp
    (with_reducible refine (eqFast_c _ _ _ _ _ _ _ _ fa _ (St.rowA hS 8 rfl) (St.rowA hS 9 rfl) (St.rowA hS 0 rfl) (St.rowA hS 1 rfl)).mono ?_)
    rintro e w18 ⟨rfl, hb⟩; replace hS := hS.step hb; clear hb
    try go_wp2_with fail
    refine hKq.out _ _ (⟨hS.cell 7 rfl 0, hS.cell 7 rfl 1, hS.cell 7 rfl 2, hS.cell 7 rfl 3, hS.cell 7 rfl 4, hS.cell 7 rfl 5, hS.cell 19 rfl 0, hS.cell 19 rfl 1, hS.cell 19 rfl 2, hS.cell 19 rfl 3, hS.cell 19 rfl 4, hS.cell 19 rfl 5⟩) (fun hHeld => ?_)
    clear hKq Kq
    (try simp only [pP])
    (first | refine rQ1 ?_ | refine rQ2 ?_); (try simp only [pP])
    refine wpAnyH_done (by kernel_rfl) ?_ _
    clear hHeld
    have x_P0 := hS.cell 20 rfl
    have x_P1 := hS.cell 19 rfl
    have x_P3 := hS.cell 18 rfl
    have x_b9 := hS.cell 10 rfl
    have x_b11 := hS.cell 7 rfl
    have x_b13 := hS.cell 3 rfl
    go_wp2
    try clear x_P0
    try clear x_P1
    try clear x_P3
    try clear x_b9
    try clear x_b11
    try clear x_b13
    replace hS := hS.drew
    refine wp_region_held_drew (S := (fun w' => w'.cell? ⟨w12.heap.size, 0, none⟩ = some (.slice A12_0 vm.frames.length c12_0) ∧ w'.cell? ⟨w12.heap.size, 1, none⟩ = some (.slice A12_1 vm.heap.length c12_1) ∧ w'.cell? ⟨w12.heap.size, 2, none⟩ = some (.int .i64 vm.made) ∧ w'.cell? ⟨w12.heap.size, 3, none⟩ = some (.slice A12_3 vm.out.length c12_3) ∧ w'.cell? ⟨w12.heap.size, 4, none⟩ = some (.int .i64 vm.status) ∧ w'.cell? ⟨w12.heap.size, 5, none⟩ = some (.int .i64 vm.trap) ∧ w'.cell? ⟨w12.heap.size, 6, none⟩ = some (.int .i64 vm.value.k) ∧ w'.cell? ⟨w12.heap.size, 7, none⟩ = some (.int .i64 vm.value.n) ∧ w'.cell? ⟨w12.heap.size, 8, none⟩ = some (.string vm.value.s) ∧ w'.cell? ⟨w12.heap.size, 9, none⟩ = some (.int .i64 vm.steps) ∧ w'.cell? ⟨w.heap.size + 2, 0, none⟩ = some (.slice A3_0 vm.frames.length c3_0) ∧ w'.cell? ⟨w.heap.size + 2, 1, none⟩ = some (.slice A3_1 vm.heap.length c3_1) ∧ w'.cell? ⟨w.heap.size + 2, 2, none⟩ = some (.int .i64 vm.made) ∧ w'.cell? ⟨w.heap.size + 2, 3, none⟩ = some (.slice A3_3 vm.out.length c3_3) ∧ w'.cell? ⟨w.heap.size + 2, 4, none⟩ = some (.int .i64 vm.status) ∧ w'.cell? ⟨w.heap.size + 2, 5, none⟩ = some (.int .i64 vm.trap) ∧ w'.cell? ⟨w.heap.size + 2, 6, none⟩ = some (.int .i64 vm.value.k) ∧ w'.cell? ⟨w.heap.size + 2, 7, none⟩ = some (.int .i64 vm.value.n) ∧ w'.cell? ⟨w.heap.size + 2, 8, none⟩ = some (.string vm.value.s) ∧ w'.cell? ⟨w.heap.size + 2, 9, none⟩ = some (.int .i64 vm.steps))) (by kernel_rfl) (⟨hS.cell 3 rfl 0, hS.cell 3 rfl 1, hS.cell 3 rfl 2, hS.cell 3 rfl 3, hS.cell 3 rfl 4, hS.cell 3 rfl 5, hS.cell 3 rfl 6, hS.cell 3 rfl 7, hS.cell 3 rfl 8, hS.cell 3 rfl 9, hS.cell 18 rfl 0, hS.cell 18 rfl 1, hS.cell 18 rfl 2, hS.cell 18 rfl 3, hS.cell 18 rfl 4, hS.cell 18 rfl 5, hS.cell 18 rfl 6, hS.cell 18 rfl 7, hS.cell 18 rfl 8, hS.cell 18 rfl 9⟩) (fun hHeld => ?_)
    (iterate 2 (first | refine rQ1 ?_ | refine rQ2 ?_); try simp only [pP])
    refine regC 2 rfl (by kernel_rfl) (by rfl) (fun Kq hKq => ?_)
    go_simp
    (with_reducible refine (toVm_c _ _ _ _ _ _ vm _ (hr3_0.below hS.bel) (hr3_1.below hS.bel) (hr3_3.below hS.bel) hlen3).mono ?_)
    rintro e w19 ⟨v19_0, v19_1, v19_3, F19_0, F19_1, F19_3, rfl, hSx⟩; replace hS := hS.join hSx; clear hSx; obtain ⟨A19_0, c19_0, rfl, _, _⟩ := hS.row 0 rfl; obtain ⟨A19_1, c19_1, rfl, _, _⟩ := hS.row 1 rfl; obtain ⟨A19_3, c19_3, rfl, _, _⟩ := hS.row 2 rfl
    try go_wp2_with fail
    refine hKq.out _ _ (⟨hS.cell 6 rfl 0, hS.cell 6 rfl 1, hS.cell 6 rfl 2, hS.cell 6 rfl 3, hS.cell 6 rfl 4, hS.cell 6 rfl 5, hS.cell 6 rfl 6, hS.cell 6 rfl 7, hS.cell 6 rfl 8, hS.cell 6 rfl 9, hS.cell 21 rfl 0, hS.cell 21 rfl 1, hS.cell 21 rfl 2, hS.cell 21 rfl 3, hS.cell 21 rfl 4, hS.cell 21 rfl 5, hS.cell 21 rfl 6, hS.cell 21 rfl 7, hS.cell 21 rfl 8, hS.cell 21 rfl 9⟩) (fun hHeld => ?_)
    clear hKq Kq
    (try simp only [pP])
    refine regC 3 rfl (by kernel_rfl) (by rfl) (fun Kq hKq => ?_)
    go_simp
    (with_reducible refine (eqVm_c _ _ _ _ _ _ _ _ _ _ _ _ vm _ (St.rowA hS 7 rfl) (St.rowA hS 8 rfl) (St.rowA hS 9 rfl) (St.rowA hS 0 rfl) (St.rowA hS 1 rfl) (St.rowA hS 2 rfl)).mono ?_)
    rintro e w20 ⟨rfl, hb⟩; replace hS := hS.step hb; clear hb
    try go_wp2_with fail
    refine hKq.out _ _ (⟨hS.cell 6 rfl 0, hS.cell 6 rfl 1, hS.cell 6 rfl 2, hS.cell 6 rfl 3, hS.cell 6 rfl 4, hS.cell 6 rfl 5, hS.cell 6 rfl 6, hS.cell 6 rfl 7, hS.cell 6 rfl 8, hS.cell 6 rfl 9, hS.cell 21 rfl 0, hS.cell 21 rfl 1, hS.cell 21 rfl 2, hS.cell 21 rfl 3, hS.cell 21 rfl 4, hS.cell 21 rfl 5, hS.cell 21 rfl 6, hS.cell 21 rfl 7, hS.cell 21 rfl 8, hS.cell 21 rfl 9⟩) (fun hHeld => ?_)
    clear hKq Kq
    (try simp only [pP])
    (first | refine rQ1 ?_ | refine rQ2 ?_); (try simp only [pP])
    refine wpAnyH_done (by kernel_rfl) ?_ _
    clear hHeld
    have x_P0 := hS.cell 23 rfl
    have x_P1 := hS.cell 22 rfl
    have x_P3 := hS.cell 21 rfl
    have x_b9 := hS.cell 13 rfl
    have x_b11 := hS.cell 10 rfl
    have x_b13 := hS.cell 6 rfl
    go_wp2
    go_ret
    exact ⟨rfl, hS.bel⟩
theorem lawExitHolds (t : List ByteArray) (l : List DFunc) (fa_0 : Int) (fa_1 : Int) (fa_2 : Int) (fa_3 : Int) (fa_4 : List DFOp) (fa_5 : List DExit) (x : Int) (vm_0 : List DFrame) (vm_1 : List DRec) (vm_2 : Int) (vm_3 : List ByteArray) (vm_4 : Int) (vm_5 : Int) (vm_6 : Int) (vm_7 : Int) (vm_8 : ByteArray) (vm_9 : Int) (w : World) {A B : Option Addr} {c d : Nat} {A1_4 : Option Addr} {c1_4 : Nat} {A1_5 : Option Addr} {c1_5 : Nat} {A3_0 : Option Addr} {c3_0 : Nat} {A3_1 : Option Addr} {c3_1 : Nat} {A3_3 : Option Addr} {c3_3 : Nat} (ht0 : Knd.str.Row w A t.length t) (h_t : t.length ≤ c) (hr0 : kFunc.Row w B l.length l) (h_l : l.length ≤ d) (hr1_4 : kFOp.Row w A1_4 fa_4.length fa_4) (h_1_4 : fa_4.length ≤ c1_4) (hr1_5 : kExit.Row w A1_5 fa_5.length fa_5) (h_1_5 : fa_5.length ≤ c1_5) (hr3_0 : kFrame.Row w A3_0 vm_0.length vm_0) (h_3_0 : vm_0.length ≤ c3_0) (hr3_1 : kRec.Row w A3_1 vm_1.length vm_1) (h_3_1 : vm_1.length ≤ c3_1) (hr3_3 : Knd.str.Row w A3_3 vm_3.length vm_3) (h_3_3 : vm_3.length ≤ c3_3) (hT : t.length ≤ maxLen ∧ ∀ y ∈ t, y.size ≤ maxLen) (hL : l.length ≤ maxLen ∧ ∀ y ∈ l, VFunc y) (b1_0 : (Lit.int .i64 fa_0).wf = true) (b1_1 : (Lit.int .i64 fa_1).wf = true) (b1_2 : (Lit.int .i64 fa_2).wf = true) (b1_3 : (Lit.int .i64 fa_3).wf = true) (b1_4 : fa_4.length ≤ maxLen ∧ ∀ y ∈ fa_4, VFOp y) (b1_5 : fa_5.length ≤ maxLen ∧ ∀ y ∈ fa_5, VExit y) (hw2 : (Lit.int .i64 x).wf = true) (b3_0 : vm_0.length ≤ maxLen ∧ ∀ y ∈ vm_0, VFrame y) (b3_1 : vm_1.length ≤ maxLen ∧ ∀ y ∈ vm_1, VRec y) (b3_2 : (Lit.int .i64 vm_2).wf = true) (b3_3 : vm_3.length ≤ maxLen ∧ ∀ y ∈ vm_3, y.size ≤ maxLen) (b3_4 : (Lit.int .i64 vm_4).wf = true) (b3_5 : (Lit.int .i64 vm_5).wf = true) (b3_6 : (Lit.int .i64 vm_6).wf = true) (b3_7 : (Lit.int .i64 vm_7).wf = true) (b3_8 : vm_8.size ≤ maxLen) (b3_9 : (Lit.int .i64 vm_9).wf = true) : Calls Tryz.prog 10 #[.agg #[.slice A t.length c, .slice B l.length d], .agg #[.int .i64 fa_0, .int .i64 fa_1, .int .i64 fa_2, .int .i64 fa_3, .slice A1_4 fa_4.length c1_4, .slice A1_5 fa_5.length c1_5], .int .i64 x, .agg #[.slice A3_0 vm_0.length c3_0, .slice A3_1 vm_1.length c3_1, .int .i64 vm_2, .slice A3_3 vm_3.length c3_3, .int .i64 vm_4, .int .i64 vm_5, .int .i64 vm_6, .int .i64 vm_7, .string vm_8, .int .i64 vm_9]] w fun e w' => e = .returned (.bool true) ∧ Below w.heap.size w w' := lawxExitHolds t l (⟨fa_0, fa_1, fa_2, fa_3, fa_4, fa_5⟩ : DFast) x (⟨vm_0, vm_1, vm_2, vm_3, vm_4, vm_5, ⟨vm_6, vm_7, vm_8⟩, vm_9⟩ : DVm) w ht0 h_t hr0 h_l hr1_4 h_1_4 hr1_5 h_1_5 hr3_0 h_3_0 hr3_1 h_3_1 hr3_3 h_3_3 hT hL ⟨b1_0, b1_1, b1_2, b1_3, b1_4, b1_5⟩ hw2 ⟨b3_0, b3_1, b3_2, b3_3, b3_4, b3_5, ⟨b3_6, b3_7, b3_8⟩, b3_9⟩
end Go.Proofs.YthinhlcfpaaldaaGreat.Dat
