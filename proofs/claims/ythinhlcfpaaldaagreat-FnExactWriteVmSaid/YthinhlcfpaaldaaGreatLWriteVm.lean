/- The walk of the law of WriteVm. Written by a program (lawg.py). -/
import Derived.Test.YthinhlcfpaaldaaGreatK3
import Derived.Test.YthinhlcfpaaldaaGreatK4
import Derived.Test.YthinhlcfpaaldaaGreatWrV
import Derived.Test.YthinhlcfpaaldaaGreatGInt
namespace Go.Proofs.YthinhlcfpaaldaaGreat.Dat
open Go Go.RowKit Go.Proofs.YthinhlcfpaaldaaGreat.Mem
set_option linter.unusedVariables false
set_option linter.unusedSimpArgs false
set_option maxHeartbeats 8000000 in
set_option maxRecDepth 100000 in
theorem lawxWriteVm (t : List ByteArray) (l : List DFunc) (vm : DVm) (w : World) {A B : Option Addr} {c d : Nat} {A1_0 : Option Addr} {c1_0 : Nat} {A1_1 : Option Addr} {c1_1 : Nat} {A1_3 : Option Addr} {c1_3 : Nat} (ht0 : Knd.str.Row w A t.length t) (_ : t.length ≤ c) (hr0 : kFunc.Row w B l.length l) (_ : l.length ≤ d) (hr1_0 : kFrame.Row w A1_0 vm.frames.length vm.frames) (_ : vm.frames.length ≤ c1_0) (hr1_1 : kRec.Row w A1_1 vm.heap.length vm.heap) (_ : vm.heap.length ≤ c1_1) (hr1_3 : Knd.str.Row w A1_3 vm.out.length vm.out) (_ : vm.out.length ≤ c1_3) (hT : t.length ≤ maxLen ∧ ∀ y ∈ t, y.size ≤ maxLen) (hL : l.length ≤ maxLen ∧ ∀ y ∈ l, VFunc y) (hV1 : VVm vm) : Calls Tryz.prog 6 #[.agg #[.slice A t.length c, .slice B l.length d], .agg #[.slice A1_0 vm.frames.length c1_0, .slice A1_1 vm.heap.length c1_1, .int .i64 vm.made, .slice A1_3 vm.out.length c1_3, .int .i64 vm.status, .int .i64 vm.trap, .int .i64 vm.value.k, .int .i64 vm.value.n, .string vm.value.s, .int .i64 vm.steps]] w fun e w' => e = .returned (.bool true) ∧ Below w.heap.size w w' := by
  by_cases z0 : ((szMod t l : Nat) : Int) ≤ (1048576 : Int)
  rotate_left
  · skip
    have Z0 := szModule A B c d t l (1048576)
    rw [lft_gt (by omega)] at Z0
    have hS := (St.start w).made (.cells #[.slice A t.length c, .slice B l.length d] 25 (0, 0))
    replace hS := hS.madeAt (.cells #[.slice A1_0 vm.frames.length c1_0, .slice A1_1 vm.heap.length c1_1, .int .i64 vm.made, .slice A1_3 vm.out.length c1_3, .int .i64 vm.status, .int .i64 vm.trap, .int .i64 vm.value.k, .int .i64 vm.value.n, .string vm.value.s, .int .i64 vm.steps] 55 (0, 0)) (w.heap.size + 1) (by simp)
    go_enter Tryz.func6, Tryz.ntmps6
    go_wp2_with fail
    refine (Z0 _ (ht0.below hS.bel) (hr0.below hS.bel) hT.1 hL.1 hT.2 (fun x h => (hL.2 x h).2.2.1) (by omega) (by omega)).mono ?_
    rintro e w1 ⟨rfl, hb⟩
    try clear x_P0
    try clear x_P1
    replace hS := hS.step hb
    clear hb
    have x_P0 := hS.cell 1 rfl
    have x_P1 := hS.cell 0 rfl
    go_wp2
    go_ret
    exact ⟨rfl, hS.bel⟩
  by_cases z1 : ((msVm vm : Nat) : Int) ≤ (1048576 - ((szMod t l : Nat) : Int) : Int)
  rotate_left
  · skip
    have Z0 := szModule A B c d t l (1048576)
    rw [lft_le z0] at Z0
    have g0 : 0 ≤ 1048576 - ((szMod t l : Nat) : Int) := by omega
    have Z1 := szVm_c A1_0 A1_1 A1_3 c1_0 c1_1 c1_3 vm (1048576 - ((szMod t l : Nat) : Int))
    rw [lft_gt (by omega)] at Z1
    have hS := (St.start w).made (.cells #[.slice A t.length c, .slice B l.length d] 25 (0, 0))
    replace hS := hS.madeAt (.cells #[.slice A1_0 vm.frames.length c1_0, .slice A1_1 vm.heap.length c1_1, .int .i64 vm.made, .slice A1_3 vm.out.length c1_3, .int .i64 vm.status, .int .i64 vm.trap, .int .i64 vm.value.k, .int .i64 vm.value.n, .string vm.value.s, .int .i64 vm.steps] 55 (0, 0)) (w.heap.size + 1) (by simp)
    go_enter Tryz.func6, Tryz.ntmps6
    go_wp2_with fail
    refine (Z0 _ (ht0.below hS.bel) (hr0.below hS.bel) hT.1 hL.1 hT.2 (fun x h => (hL.2 x h).2.2.1) (by omega) (by omega)).mono ?_
    rintro e w1 ⟨rfl, hb⟩
    try clear x_P0
    try clear x_P1
    replace hS := hS.step hb
    clear hb
    have x_P0 := hS.cell 1 rfl
    have x_P1 := hS.cell 0 rfl
    go_wp2_with fail
    refine (Z1 _ (hr1_0.below hS.bel) (hr1_1.below hS.bel) (hr1_3.below hS.bel) hV1 (by omega) (by omega)).mono ?_
    rintro e w2 ⟨rfl, hb⟩
    try clear x_P0
    try clear x_P1
    replace hS := hS.step hb
    clear hb
    have x_P0 := hS.cell 1 rfl
    have x_P1 := hS.cell 0 rfl
    go_wp2
    go_ret
    exact ⟨rfl, hS.bel⟩
  have Z0 := szModule A B c d t l (1048576)
  rw [lft_le z0] at Z0
  have g0 : 0 ≤ 1048576 - ((szMod t l : Nat) : Int) := by omega
  have Z1 := szVm_c A1_0 A1_1 A1_3 c1_0 c1_1 c1_3 vm (1048576 - ((szMod t l : Nat) : Int))
  rw [lft_le z1] at Z1
  have g1 : 0 ≤ 1048576 - ((szMod t l : Nat) : Int) - ((msVm vm : Nat) : Int) := by omega
  obtain ⟨htm, hm, hv⟩ := szMod_small z0
  have hv2 : ∀ x ∈ l, x.code.length ≤ 1048576 ∧ -9223372036854775808 ≤ x.locals ∧ x.locals ≤ 9223372036854775807 := fun x h => ⟨hv x h, wf_lo (hL.2 x h).2.1, wf_hi (hL.2 x h).2.1⟩
  have hlen1 := MVm_of (x := vm) (by omega)
  have hmc : msVm vm ≤ 1048576 := by omega
  have hct0 := ctFunc_small l hm hv
  have hct1_0 := ctLeFrame vm.frames
  have hct1_1 := ctLeRec vm.heap
  have hct1_3 := ctL_const 1 vm.out
  have hms1 : msVm vm = sumOf msFrame vm.frames + sumOf msRec vm.heap + sumOf ByteArray.size vm.out + msValue vm.value := rfl
  have hcl1_3 : vm.out.length ≤ sumOf ByteArray.size vm.out := by unfold sumOf; omega
  have hsmall0 := writeVm_small t l vm hmc
  obtain ⟨X, hX⟩ : ∃ X : List Int, writeVmL t l vm = X := ⟨_, rfl⟩
  rw [hX] at hsmall0
  have HX := Lib.hid hX
  clear hX
  have hsmall := hsmall0
  have hcX := ctL_const 1 X
  have hS := (St.start w).made (.cells #[.slice A t.length c, .slice B l.length d] 25 (0, 0))
  replace hS := hS.madeAt (.cells #[.slice A1_0 vm.frames.length c1_0, .slice A1_1 vm.heap.length c1_1, .int .i64 vm.made, .slice A1_3 vm.out.length c1_3, .int .i64 vm.status, .int .i64 vm.trap, .int .i64 vm.value.k, .int .i64 vm.value.n, .string vm.value.s, .int .i64 vm.steps] 55 (0, 0)) (w.heap.size + 1) (by simp)
  go_enter Tryz.func6, Tryz.ntmps6
  go_wp2_with fail
  refine (Z0 _ (ht0.below hS.bel) (hr0.below hS.bel) hT.1 hL.1 hT.2 (fun x h => (hL.2 x h).2.2.1) (by omega) (by omega)).mono ?_
  rintro e w1 ⟨rfl, hb⟩
  try clear x_P0
  try clear x_P1
  replace hS := hS.step hb
  clear hb
  have x_P0 := hS.cell 1 rfl
  have x_P1 := hS.cell 0 rfl
  go_wp2_with fail
  refine (Z1 _ (hr1_0.below hS.bel) (hr1_1.below hS.bel) (hr1_3.below hS.bel) hV1 (by omega) (by omega)).mono ?_
  rintro e w2 ⟨rfl, hb⟩
  try clear x_P0
  try clear x_P1
  replace hS := hS.step hb
  clear hb
  have x_P0 := hS.cell 1 rfl
  have x_P1 := hS.cell 0 rfl
  go_wp2
  try clear x_P0
  try clear x_P1
  replace hS := hS.drew
  refine wp_region_held_drew (S := (fun w' => w'.cell? ⟨w.heap.size, 0, none⟩ = some (.slice A t.length c) ∧ w'.cell? ⟨w.heap.size, 1, none⟩ = some (.slice B l.length d) ∧ w'.cell? ⟨w.heap.size + 1, 0, none⟩ = some (.slice A1_0 vm.frames.length c1_0) ∧ w'.cell? ⟨w.heap.size + 1, 1, none⟩ = some (.slice A1_1 vm.heap.length c1_1) ∧ w'.cell? ⟨w.heap.size + 1, 2, none⟩ = some (.int .i64 vm.made) ∧ w'.cell? ⟨w.heap.size + 1, 3, none⟩ = some (.slice A1_3 vm.out.length c1_3) ∧ w'.cell? ⟨w.heap.size + 1, 4, none⟩ = some (.int .i64 vm.status) ∧ w'.cell? ⟨w.heap.size + 1, 5, none⟩ = some (.int .i64 vm.trap) ∧ w'.cell? ⟨w.heap.size + 1, 6, none⟩ = some (.int .i64 vm.value.k) ∧ w'.cell? ⟨w.heap.size + 1, 7, none⟩ = some (.int .i64 vm.value.n) ∧ w'.cell? ⟨w.heap.size + 1, 8, none⟩ = some (.string vm.value.s) ∧ w'.cell? ⟨w.heap.size + 1, 9, none⟩ = some (.int .i64 vm.steps))) (by kernel_rfl) (⟨hS.cell 1 rfl 0, hS.cell 1 rfl 1, hS.cell 0 rfl 0, hS.cell 0 rfl 1, hS.cell 0 rfl 2, hS.cell 0 rfl 3, hS.cell 0 rfl 4, hS.cell 0 rfl 5, hS.cell 0 rfl 6, hS.cell 0 rfl 7, hS.cell 0 rfl 8, hS.cell 0 rfl 9⟩) (fun hHeld => ?_)
  (first | refine rQ1 ?_ | refine rQ2 ?_); (try simp only [pP]); (first | refine rW 2 ?_ | refine rV 2 ?_); (try simp only [pP])
  refine regC 1 rfl (by kernel_rfl) (by rfl) (fun Kq hKq => ?_)
  go_simp
  (with_reducible refine (toModule _ _ _ _ t l _ (ht0.below hS.bel) (hr0.below hS.bel) htm hm hv).mono ?_)
  rintro e w3 ⟨v, u, F3, G3, rfl, hot, hor, hnd, hF, hb⟩; replace hS := St.newMod hS hot hor hnd hF hb; clear hot hor hnd hF hb; obtain ⟨A3, c3, B3, d3, rfl, rfl, _, _⟩ := St.modR hS 0 rfl
  try go_wp2_with fail
  refine hKq.out _ _ (⟨hS.cell 2 rfl 0, hS.cell 2 rfl 1, hS.cell 1 rfl 0, hS.cell 1 rfl 1, hS.cell 1 rfl 2, hS.cell 1 rfl 3, hS.cell 1 rfl 4, hS.cell 1 rfl 5, hS.cell 1 rfl 6, hS.cell 1 rfl 7, hS.cell 1 rfl 8, hS.cell 1 rfl 9⟩) (fun hHeld => ?_)
  clear hKq Kq
  (try simp only [pP])
  refine regC 3 rfl (by kernel_rfl) (by rfl) (fun Kq hKq => ?_)
  go_simp
  (with_reducible refine (toVm_c _ _ _ _ _ _ vm _ (hr1_0.below hS.bel) (hr1_1.below hS.bel) (hr1_3.below hS.bel) hlen1).mono ?_)
  rintro e w4 ⟨v4_0, v4_1, v4_3, F4_0, F4_1, F4_3, rfl, hSx⟩; replace hS := hS.join hSx; clear hSx; obtain ⟨A4_0, c4_0, rfl, _, _⟩ := hS.row 0 rfl; obtain ⟨A4_1, c4_1, rfl, _, _⟩ := hS.row 1 rfl; obtain ⟨A4_3, c4_3, rfl, _, _⟩ := hS.row 2 rfl
  try go_wp2_with fail
  refine hKq.out _ _ (⟨hS.cell 5 rfl 0, hS.cell 5 rfl 1, hS.cell 4 rfl 0, hS.cell 4 rfl 1, hS.cell 4 rfl 2, hS.cell 4 rfl 3, hS.cell 4 rfl 4, hS.cell 4 rfl 5, hS.cell 4 rfl 6, hS.cell 4 rfl 7, hS.cell 4 rfl 8, hS.cell 4 rfl 9⟩) (fun hHeld => ?_)
  clear hKq Kq
  (try simp only [pP])
  refine regC 4 rfl (by kernel_rfl) (by rfl) (fun Kq hKq => ?_)
  go_simp
  (with_reducible refine (writeVm3 _ _ _ _ _ _ _ _ _ _ t l vm _ ⟨(St.modA hS 3 rfl).1, (St.modA hS 3 rfl).2, htm, hm, hT.2, hv2⟩ (St.rowA hS 0 rfl) (St.rowA hS 1 rfl) (St.rowA hS 2 rfl) hlen1 hmc HX.out).mono ?_)
  intro e w5 hn; obtain ⟨A5, c5, F5, rfl, hS2⟩ := St.newRowF hS hn; replace hS := hS2; clear hn hS2
  try go_wp2_with fail
  refine hKq.out _ _ (⟨hS.cell 6 rfl 0, hS.cell 6 rfl 1, hS.cell 5 rfl 0, hS.cell 5 rfl 1, hS.cell 5 rfl 2, hS.cell 5 rfl 3, hS.cell 5 rfl 4, hS.cell 5 rfl 5, hS.cell 5 rfl 6, hS.cell 5 rfl 7, hS.cell 5 rfl 8, hS.cell 5 rfl 9⟩) (fun hHeld => ?_)
  clear hKq Kq
  (try simp only [pP])
  (first | refine rQ1 ?_ | refine rQ2 ?_); (try simp only [pP])
  refine wpAnyH_done (by kernel_rfl) ?_ _
  clear hHeld
  have x_P0 := hS.cell 6 rfl
  have x_P1 := hS.cell 5 rfl
  go_wp2_with fail
  refine (toModule _ _ _ _ t l _ (ht0.below hS.bel) (hr0.below hS.bel) htm hm hv).mono ?_
  rintro e w6 ⟨v, u, F6, G6, rfl, hot, hor, hnd, hF, hb⟩
  try clear x_P0
  try clear x_P1
  replace hS := St.newMod hS hot hor hnd hF hb
  clear hot hor hnd hF hb
  obtain ⟨A6, c6, B6, d6, rfl, rfl, _, _⟩ := St.modR hS 0 rfl
  have x_P0 := hS.cell 7 rfl
  have x_P1 := hS.cell 6 rfl
  try clear x_P0
  try clear x_P1
  try clear x_b7
  replace hS := hS.made (.cells #[.slice A6 t.length c6, .slice B6 l.length d6] 36 (0, 0))
  have x_P0 := hS.cell 8 rfl
  have x_P1 := hS.cell 7 rfl
  have x_b7 := hS.cell 0 rfl
  go_wp2_with fail
  refine (toVm_c _ _ _ _ _ _ vm _ (hr1_0.below hS.bel) (hr1_1.below hS.bel) (hr1_3.below hS.bel) hlen1).mono ?_
  rintro e w8 ⟨v8_0, v8_1, v8_3, F8_0, F8_1, F8_3, rfl, hSx⟩
  try clear x_P0
  try clear x_P1
  try clear x_b7
  replace hS := hS.join hSx
  clear hSx
  obtain ⟨A8_0, c8_0, rfl, _, _⟩ := hS.row 0 rfl
  obtain ⟨A8_1, c8_1, rfl, _, _⟩ := hS.row 1 rfl
  obtain ⟨A8_3, c8_3, rfl, _, _⟩ := hS.row 2 rfl
  try dsimp only [List.set_cons_succ, List.set_cons_zero, List.cons_append, List.nil_append, List.eraseIdx_cons_succ, List.eraseIdx_cons_zero] at hS
  have x_P0 := hS.cell 11 rfl
  have x_P1 := hS.cell 10 rfl
  have x_b7 := hS.cell 3 rfl
  try clear x_P0
  try clear x_P1
  try clear x_b7
  try clear x_b9
  replace hS := hS.made (.cells #[.slice A8_0 vm.frames.length c8_0, .slice A8_1 vm.heap.length c8_1, .int .i64 vm.made, .slice A8_3 vm.out.length c8_3, .int .i64 vm.status, .int .i64 vm.trap, .int .i64 vm.value.k, .int .i64 vm.value.n, .string vm.value.s, .int .i64 vm.steps] 67 (0, 0))
  have x_P0 := hS.cell 12 rfl
  have x_P1 := hS.cell 11 rfl
  have x_b7 := hS.cell 4 rfl
  have x_b9 := hS.cell 0 rfl
  go_wp2_with fail
  refine (writeVmI _ _ _ _ _ _ _ _ _ _ t l vm _ ⟨(St.modA hS 5 rfl).1, (St.modA hS 5 rfl).2, htm, hm, hT.2, hv2⟩ (St.rowA hS 1 rfl) (St.rowA hS 2 rfl) (St.rowA hS 3 rfl) hlen1 hmc HX.out).mono ?_
  intro e w10 hn
  try clear x_P0
  try clear x_P1
  try clear x_b7
  try clear x_b9
  obtain ⟨A10, c10, F10, rfl, hS2⟩ := St.newRowF hS hn
  replace hS := hS2
  clear hn hS2
  try dsimp only [List.set_cons_succ, List.set_cons_zero, List.cons_append, List.nil_append, List.eraseIdx_cons_succ, List.eraseIdx_cons_zero] at hS
  have x_P0 := hS.cell 13 rfl
  have x_P1 := hS.cell 12 rfl
  have x_b7 := hS.cell 5 rfl
  have x_b9 := hS.cell 1 rfl
  as_aux_lemma =>
    go_wp2_with fail
    refine (eqIntS_c _ _ _ _ X _ (St.rowA hS 0 rfl) (St.rowA hS 7 rfl)).mono ?_
    rintro e w11 ⟨rfl, hb⟩
    try clear x_P0
    try clear x_P1
    try clear x_b7
    try clear x_b9
    replace hS := hS.step hb
    clear hb
    have x_P0 := hS.cell 13 rfl
    have x_P1 := hS.cell 12 rfl
    have x_b7 := hS.cell 5 rfl
    have x_b9 := hS.cell 1 rfl
    go_wp2
    try clear x_P0
    try clear x_P1
    try clear x_b7
    try clear x_b9
    replace hS := hS.drew
    refine wp_region_held_drew (S := (fun w' => w'.cell? ⟨w6.heap.size, 0, none⟩ = some (.slice A6 t.length c6) ∧ w'.cell? ⟨w6.heap.size, 1, none⟩ = some (.slice B6 l.length d6) ∧ w'.cell? ⟨w.heap.size, 0, none⟩ = some (.slice A t.length c) ∧ w'.cell? ⟨w.heap.size, 1, none⟩ = some (.slice B l.length d))) (by kernel_rfl) (⟨hS.cell 5 rfl 0, hS.cell 5 rfl 1, hS.cell 13 rfl 0, hS.cell 13 rfl 1⟩) (fun hHeld => ?_)
    (iterate 2 (first | refine rQ1 ?_ | refine rQ2 ?_); try simp only [pP])
    refine regC 2 rfl (by kernel_rfl) (by rfl) (fun Kq hKq => ?_)
    go_simp
    (with_reducible refine (toModule _ _ _ _ t l _ (ht0.below hS.bel) (hr0.below hS.bel) htm hm hv).mono ?_)
    rintro e w12 ⟨v, u, F12, G12, rfl, hot, hor, hnd, hF, hb⟩; replace hS := St.newMod hS hot hor hnd hF hb; clear hot hor hnd hF hb; obtain ⟨A12, c12, B12, d12, rfl, rfl, _, _⟩ := St.modR hS 0 rfl
    try go_wp2_with fail
    refine hKq.out _ _ (⟨hS.cell 6 rfl 0, hS.cell 6 rfl 1, hS.cell 14 rfl 0, hS.cell 14 rfl 1⟩) (fun hHeld => ?_)
    clear hKq Kq
    (try simp only [pP])
    refine regC 3 rfl (by kernel_rfl) (by rfl) (fun Kq hKq => ?_)
    go_simp
    (with_reducible refine (eqModule _ _ _ _ _ _ _ _ t l _ (St.modA hS 7 rfl).1 (St.modA hS 7 rfl).2 (St.modA hS 0 rfl).1 (St.modA hS 0 rfl).2).mono ?_)
    rintro e w13 ⟨rfl, hb⟩; replace hS := hS.step hb; clear hb
    try go_wp2_with fail
    refine hKq.out _ _ (⟨hS.cell 6 rfl 0, hS.cell 6 rfl 1, hS.cell 14 rfl 0, hS.cell 14 rfl 1⟩) (fun hHeld => ?_)
    clear hKq Kq
    (try simp only [pP])
    (first | refine rQ1 ?_ | refine rQ2 ?_); (try simp only [pP])
    refine wpAnyH_done (by kernel_rfl) ?_ _
    clear hHeld
    have x_P0 := hS.cell 14 rfl
    have x_P1 := hS.cell 13 rfl
    have x_b7 := hS.cell 6 rfl
    have x_b9 := hS.cell 2 rfl
    go_wp2
    try clear x_P0
    try clear x_P1
    try clear x_b7
    try clear x_b9
    replace hS := hS.drew
    refine wp_region_held_drew (S := (fun w' => w'.cell? ⟨w8.heap.size, 0, none⟩ = some (.slice A8_0 vm.frames.length c8_0) ∧ w'.cell? ⟨w8.heap.size, 1, none⟩ = some (.slice A8_1 vm.heap.length c8_1) ∧ w'.cell? ⟨w8.heap.size, 2, none⟩ = some (.int .i64 vm.made) ∧ w'.cell? ⟨w8.heap.size, 3, none⟩ = some (.slice A8_3 vm.out.length c8_3) ∧ w'.cell? ⟨w8.heap.size, 4, none⟩ = some (.int .i64 vm.status) ∧ w'.cell? ⟨w8.heap.size, 5, none⟩ = some (.int .i64 vm.trap) ∧ w'.cell? ⟨w8.heap.size, 6, none⟩ = some (.int .i64 vm.value.k) ∧ w'.cell? ⟨w8.heap.size, 7, none⟩ = some (.int .i64 vm.value.n) ∧ w'.cell? ⟨w8.heap.size, 8, none⟩ = some (.string vm.value.s) ∧ w'.cell? ⟨w8.heap.size, 9, none⟩ = some (.int .i64 vm.steps) ∧ w'.cell? ⟨w.heap.size + 1, 0, none⟩ = some (.slice A1_0 vm.frames.length c1_0) ∧ w'.cell? ⟨w.heap.size + 1, 1, none⟩ = some (.slice A1_1 vm.heap.length c1_1) ∧ w'.cell? ⟨w.heap.size + 1, 2, none⟩ = some (.int .i64 vm.made) ∧ w'.cell? ⟨w.heap.size + 1, 3, none⟩ = some (.slice A1_3 vm.out.length c1_3) ∧ w'.cell? ⟨w.heap.size + 1, 4, none⟩ = some (.int .i64 vm.status) ∧ w'.cell? ⟨w.heap.size + 1, 5, none⟩ = some (.int .i64 vm.trap) ∧ w'.cell? ⟨w.heap.size + 1, 6, none⟩ = some (.int .i64 vm.value.k) ∧ w'.cell? ⟨w.heap.size + 1, 7, none⟩ = some (.int .i64 vm.value.n) ∧ w'.cell? ⟨w.heap.size + 1, 8, none⟩ = some (.string vm.value.s) ∧ w'.cell? ⟨w.heap.size + 1, 9, none⟩ = some (.int .i64 vm.steps))) (by kernel_rfl) (⟨hS.cell 2 rfl 0, hS.cell 2 rfl 1, hS.cell 2 rfl 2, hS.cell 2 rfl 3, hS.cell 2 rfl 4, hS.cell 2 rfl 5, hS.cell 2 rfl 6, hS.cell 2 rfl 7, hS.cell 2 rfl 8, hS.cell 2 rfl 9, hS.cell 13 rfl 0, hS.cell 13 rfl 1, hS.cell 13 rfl 2, hS.cell 13 rfl 3, hS.cell 13 rfl 4, hS.cell 13 rfl 5, hS.cell 13 rfl 6, hS.cell 13 rfl 7, hS.cell 13 rfl 8, hS.cell 13 rfl 9⟩) (fun hHeld => ?_)
    (iterate 2 (first | refine rQ1 ?_ | refine rQ2 ?_); try simp only [pP])
    refine regC 2 rfl (by kernel_rfl) (by rfl) (fun Kq hKq => ?_)
    go_simp
    (with_reducible refine (toVm_c _ _ _ _ _ _ vm _ (hr1_0.below hS.bel) (hr1_1.below hS.bel) (hr1_3.below hS.bel) hlen1).mono ?_)
    rintro e w14 ⟨v14_0, v14_1, v14_3, F14_0, F14_1, F14_3, rfl, hSx⟩; replace hS := hS.join hSx; clear hSx; obtain ⟨A14_0, c14_0, rfl, _, _⟩ := hS.row 0 rfl; obtain ⟨A14_1, c14_1, rfl, _, _⟩ := hS.row 1 rfl; obtain ⟨A14_3, c14_3, rfl, _, _⟩ := hS.row 2 rfl
    try go_wp2_with fail
    refine hKq.out _ _ (⟨hS.cell 5 rfl 0, hS.cell 5 rfl 1, hS.cell 5 rfl 2, hS.cell 5 rfl 3, hS.cell 5 rfl 4, hS.cell 5 rfl 5, hS.cell 5 rfl 6, hS.cell 5 rfl 7, hS.cell 5 rfl 8, hS.cell 5 rfl 9, hS.cell 16 rfl 0, hS.cell 16 rfl 1, hS.cell 16 rfl 2, hS.cell 16 rfl 3, hS.cell 16 rfl 4, hS.cell 16 rfl 5, hS.cell 16 rfl 6, hS.cell 16 rfl 7, hS.cell 16 rfl 8, hS.cell 16 rfl 9⟩) (fun hHeld => ?_)
    clear hKq Kq
    (try simp only [pP])
    refine regC 3 rfl (by kernel_rfl) (by rfl) (fun Kq hKq => ?_)
    go_simp
    (with_reducible refine (eqVm_c _ _ _ _ _ _ _ _ _ _ _ _ vm _ (St.rowA hS 6 rfl) (St.rowA hS 7 rfl) (St.rowA hS 8 rfl) (St.rowA hS 0 rfl) (St.rowA hS 1 rfl) (St.rowA hS 2 rfl)).mono ?_)
    rintro e w15 ⟨rfl, hb⟩; replace hS := hS.step hb; clear hb
    try go_wp2_with fail
    refine hKq.out _ _ (⟨hS.cell 5 rfl 0, hS.cell 5 rfl 1, hS.cell 5 rfl 2, hS.cell 5 rfl 3, hS.cell 5 rfl 4, hS.cell 5 rfl 5, hS.cell 5 rfl 6, hS.cell 5 rfl 7, hS.cell 5 rfl 8, hS.cell 5 rfl 9, hS.cell 16 rfl 0, hS.cell 16 rfl 1, hS.cell 16 rfl 2, hS.cell 16 rfl 3, hS.cell 16 rfl 4, hS.cell 16 rfl 5, hS.cell 16 rfl 6, hS.cell 16 rfl 7, hS.cell 16 rfl 8, hS.cell 16 rfl 9⟩) (fun hHeld => ?_)
    clear hKq Kq
    (try simp only [pP])
    (first | refine rQ1 ?_ | refine rQ2 ?_); (try simp only [pP])
    refine wpAnyH_done (by kernel_rfl) ?_ _
    clear hHeld
    have x_P0 := hS.cell 17 rfl
    have x_P1 := hS.cell 16 rfl
    have x_b7 := hS.cell 9 rfl
    have x_b9 := hS.cell 5 rfl
    go_wp2_with fail
    refine (markModule _ _ t l 1 F6 G6 _ (hS.get 10 rfl).1 (hS.get 10 rfl).2 (hS.nodup 10 rfl) (by omega) (by omega) (by omega) (by omega) (fun x h => by have := hv x h; omega)).mono ?_
    rintro e w16 ⟨rfl, hmt, hml, hB⟩
    try clear x_P0
    try clear x_P1
    try clear x_b7
    try clear x_b9
    have hndx : (F6 ++ G6).Nodup := by have h9 := hS.nodup 10 rfl; exact h9
    replace hS := hS.upd (r' := Res.mod _ _ _ _ F6 G6) 10 rfl hB ⟨hmt, hml⟩ hndx (fun q hq => .inl hq)
    clear hmt hml hB hndx
    try dsimp only [List.set_cons_succ, List.set_cons_zero, List.cons_append, List.nil_append, List.eraseIdx_cons_succ, List.eraseIdx_cons_zero] at hS
    have x_P0 := hS.cell 17 rfl
    have x_P1 := hS.cell 16 rfl
    have x_b7 := hS.cell 9 rfl
    have x_b9 := hS.cell 5 rfl
    as_aux_lemma =>
      go_wp2_with fail
      refine (markVm_c vm _ _ _ F8_0 F8_1 F8_3 (1 + (t.length : Int) + (ctL ctFunc l : Int)) w _ _ hS 6 rfl 7 rfl 8 rfl (by decide) (by decide) (by decide) (by omega) (by omega) hlen1).mono ?_
      rintro e w17 ⟨rfl, hS2⟩
      try clear x_P0
      try clear x_P1
      try clear x_b7
      try clear x_b9
      replace hS := hS2
      clear hS2
      try dsimp only [List.set_cons_succ, List.set_cons_zero, List.cons_append, List.nil_append, List.eraseIdx_cons_succ, List.eraseIdx_cons_zero] at hS
      have x_P0 := hS.cell 17 rfl
      have x_P1 := hS.cell 16 rfl
      have x_b7 := hS.cell 9 rfl
      have x_b9 := hS.cell 5 rfl
      as_aux_lemma =>
        go_wp2_with fail
        refine (eqIntS_c _ _ _ _ X _ (St.rowA hS 4 rfl) (St.rowA hS 11 rfl)).mono ?_
        rintro e w18 ⟨rfl, hb⟩
        try clear x_P0
        try clear x_P1
        try clear x_b7
        try clear x_b9
        replace hS := hS.step hb
        clear hb
        have x_P0 := hS.cell 17 rfl
        have x_P1 := hS.cell 16 rfl
        have x_b7 := hS.cell 9 rfl
        have x_b9 := hS.cell 5 rfl
        go_wp2_with fail
        refine (markIntS_c _ X 1 F10 _ (St.own_ hS 4 rfl) (hS.nodup 4 rfl) (by omega) (by omega) (by omega)).mono ?_
        rintro e w19 ⟨rfl, hmo, hB⟩
        try clear x_P0
        try clear x_P1
        try clear x_b7
        try clear x_b9
        have hndx : F10.Nodup := by have h9 := hS.nodup 4 rfl; exact h9
        replace hS := hS.upd (r' := Res.own (Knd.int .i64) 3 _ (mkL (fun k _ => k) (fun _ => 1) 1 X) F10) 4 rfl hB hmo hndx (fun q hq => .inl hq)
        clear hmo hB hndx
        try dsimp only [List.set_cons_succ, List.set_cons_zero, List.cons_append, List.nil_append, List.eraseIdx_cons_succ, List.eraseIdx_cons_zero] at hS
        have x_P0 := hS.cell 17 rfl
        have x_P1 := hS.cell 16 rfl
        have x_b7 := hS.cell 9 rfl
        have x_b9 := hS.cell 5 rfl
        as_aux_lemma =>
          go_wp2_with fail
          refine (heldIntS_c _ _ X 1 _ (St.rowN hS 4 rfl (mkL_len _ _ _ _)) (by omega) (by omega) (by omega)).mono ?_
          rintro e w20 ⟨rfl, hb⟩
          try clear x_P0
          try clear x_P1
          try clear x_b7
          try clear x_b9
          replace hS := hS.step hb
          clear hb
          have x_P0 := hS.cell 17 rfl
          have x_P1 := hS.cell 16 rfl
          have x_b7 := hS.cell 9 rfl
          have x_b9 := hS.cell 5 rfl
          go_wp2
          try clear x_P0
          try clear x_P1
          try clear x_b7
          try clear x_b9
          replace hS := hS.drew
          refine wp_region_held_drew (S := (fun w' => w'.cell? ⟨w.heap.size, 0, none⟩ = some (.slice A t.length c) ∧ w'.cell? ⟨w.heap.size, 1, none⟩ = some (.slice B l.length d) ∧ w'.cell? ⟨w.heap.size + 1, 0, none⟩ = some (.slice A1_0 vm.frames.length c1_0) ∧ w'.cell? ⟨w.heap.size + 1, 1, none⟩ = some (.slice A1_1 vm.heap.length c1_1) ∧ w'.cell? ⟨w.heap.size + 1, 2, none⟩ = some (.int .i64 vm.made) ∧ w'.cell? ⟨w.heap.size + 1, 3, none⟩ = some (.slice A1_3 vm.out.length c1_3) ∧ w'.cell? ⟨w.heap.size + 1, 4, none⟩ = some (.int .i64 vm.status) ∧ w'.cell? ⟨w.heap.size + 1, 5, none⟩ = some (.int .i64 vm.trap) ∧ w'.cell? ⟨w.heap.size + 1, 6, none⟩ = some (.int .i64 vm.value.k) ∧ w'.cell? ⟨w.heap.size + 1, 7, none⟩ = some (.int .i64 vm.value.n) ∧ w'.cell? ⟨w.heap.size + 1, 8, none⟩ = some (.string vm.value.s) ∧ w'.cell? ⟨w.heap.size + 1, 9, none⟩ = some (.int .i64 vm.steps))) (by kernel_rfl) (⟨hS.cell 17 rfl 0, hS.cell 17 rfl 1, hS.cell 16 rfl 0, hS.cell 16 rfl 1, hS.cell 16 rfl 2, hS.cell 16 rfl 3, hS.cell 16 rfl 4, hS.cell 16 rfl 5, hS.cell 16 rfl 6, hS.cell 16 rfl 7, hS.cell 16 rfl 8, hS.cell 16 rfl 9⟩) (fun hHeld => ?_)
          (first | refine rQ1 ?_ | refine rQ2 ?_); (try simp only [pP]); (first | refine rW 2 ?_ | refine rV 2 ?_); (try simp only [pP])
          refine regC 1 rfl (by kernel_rfl) (by rfl) (fun Kq hKq => ?_)
          go_simp
          (with_reducible refine (toModule _ _ _ _ t l _ (ht0.below hS.bel) (hr0.below hS.bel) htm hm hv).mono ?_)
          rintro e w21 ⟨v, u, F21, G21, rfl, hot, hor, hnd, hF, hb⟩; replace hS := St.newMod hS hot hor hnd hF hb; clear hot hor hnd hF hb; obtain ⟨A21, c21, B21, d21, rfl, rfl, _, _⟩ := St.modR hS 0 rfl
          try go_wp2_with fail
          refine hKq.out _ _ (⟨hS.cell 18 rfl 0, hS.cell 18 rfl 1, hS.cell 17 rfl 0, hS.cell 17 rfl 1, hS.cell 17 rfl 2, hS.cell 17 rfl 3, hS.cell 17 rfl 4, hS.cell 17 rfl 5, hS.cell 17 rfl 6, hS.cell 17 rfl 7, hS.cell 17 rfl 8, hS.cell 17 rfl 9⟩) (fun hHeld => ?_)
          clear hKq Kq
          (try simp only [pP])
          refine regC 3 rfl (by kernel_rfl) (by rfl) (fun Kq hKq => ?_)
          go_simp
          (with_reducible refine (toVm_c _ _ _ _ _ _ vm _ (hr1_0.below hS.bel) (hr1_1.below hS.bel) (hr1_3.below hS.bel) hlen1).mono ?_)
          rintro e w22 ⟨v22_0, v22_1, v22_3, F22_0, F22_1, F22_3, rfl, hSx⟩; replace hS := hS.join hSx; clear hSx; obtain ⟨A22_0, c22_0, rfl, _, _⟩ := hS.row 0 rfl; obtain ⟨A22_1, c22_1, rfl, _, _⟩ := hS.row 1 rfl; obtain ⟨A22_3, c22_3, rfl, _, _⟩ := hS.row 2 rfl
          try go_wp2_with fail
          refine hKq.out _ _ (⟨hS.cell 21 rfl 0, hS.cell 21 rfl 1, hS.cell 20 rfl 0, hS.cell 20 rfl 1, hS.cell 20 rfl 2, hS.cell 20 rfl 3, hS.cell 20 rfl 4, hS.cell 20 rfl 5, hS.cell 20 rfl 6, hS.cell 20 rfl 7, hS.cell 20 rfl 8, hS.cell 20 rfl 9⟩) (fun hHeld => ?_)
          clear hKq Kq
          (try simp only [pP])
          refine regC 4 rfl (by kernel_rfl) (by rfl) (fun Kq hKq => ?_)
          go_simp
          (with_reducible refine (writeVmI _ _ _ _ _ _ _ _ _ _ t l vm _ ⟨(St.modA hS 3 rfl).1, (St.modA hS 3 rfl).2, htm, hm, hT.2, hv2⟩ (St.rowA hS 0 rfl) (St.rowA hS 1 rfl) (St.rowA hS 2 rfl) hlen1 hmc HX.out).mono ?_)
          intro e w23 hn; obtain ⟨A23, c23, F23, rfl, hS2⟩ := St.newRowF hS hn; replace hS := hS2; clear hn hS2
          try go_wp2_with fail
          refine hKq.out _ _ (⟨hS.cell 22 rfl 0, hS.cell 22 rfl 1, hS.cell 21 rfl 0, hS.cell 21 rfl 1, hS.cell 21 rfl 2, hS.cell 21 rfl 3, hS.cell 21 rfl 4, hS.cell 21 rfl 5, hS.cell 21 rfl 6, hS.cell 21 rfl 7, hS.cell 21 rfl 8, hS.cell 21 rfl 9⟩) (fun hHeld => ?_)
          clear hKq Kq
          (try simp only [pP])
          (first | refine rQ1 ?_ | refine rQ2 ?_); (try simp only [pP])
          refine wpAnyH_done (by kernel_rfl) ?_ _
          clear hHeld
          have x_P0 := hS.cell 22 rfl
          have x_P1 := hS.cell 21 rfl
          have x_b7 := hS.cell 14 rfl
          have x_b9 := hS.cell 10 rfl
          go_wp2_with fail
          refine (eqIntS_c _ _ _ _ X _ (St.rowA hS 0 rfl) (St.rowA hS 16 rfl)).mono ?_
          rintro e w24 ⟨rfl, hb⟩
          try clear x_P0
          try clear x_P1
          try clear x_b7
          try clear x_b9
          replace hS := hS.step hb
          clear hb
          have x_P0 := hS.cell 22 rfl
          have x_P1 := hS.cell 21 rfl
          have x_b7 := hS.cell 14 rfl
          have x_b9 := hS.cell 10 rfl
          go_wp2_with fail
          refine (heldIntS_c _ _ X 1 _ (St.rowN hS 9 rfl (mkL_len _ _ _ _)) (by omega) (by omega) (by omega)).mono ?_
          rintro e w25 ⟨rfl, hb⟩
          try clear x_P0
          try clear x_P1
          try clear x_b7
          try clear x_b9
          replace hS := hS.step hb
          clear hb
          have x_P0 := hS.cell 22 rfl
          have x_P1 := hS.cell 21 rfl
          have x_b7 := hS.cell 14 rfl
          have x_b9 := hS.cell 10 rfl
          go_wp2
          go_ret
          exact ⟨rfl, hS.bel⟩
theorem lawWriteVm (t : List ByteArray) (l : List DFunc) (vm_0 : List DFrame) (vm_1 : List DRec) (vm_2 : Int) (vm_3 : List ByteArray) (vm_4 : Int) (vm_5 : Int) (vm_6 : Int) (vm_7 : Int) (vm_8 : ByteArray) (vm_9 : Int) (w : World) {A B : Option Addr} {c d : Nat} {A1_0 : Option Addr} {c1_0 : Nat} {A1_1 : Option Addr} {c1_1 : Nat} {A1_3 : Option Addr} {c1_3 : Nat} (ht0 : Knd.str.Row w A t.length t) (h_t : t.length ≤ c) (hr0 : kFunc.Row w B l.length l) (h_l : l.length ≤ d) (hr1_0 : kFrame.Row w A1_0 vm_0.length vm_0) (h_1_0 : vm_0.length ≤ c1_0) (hr1_1 : kRec.Row w A1_1 vm_1.length vm_1) (h_1_1 : vm_1.length ≤ c1_1) (hr1_3 : Knd.str.Row w A1_3 vm_3.length vm_3) (h_1_3 : vm_3.length ≤ c1_3) (hT : t.length ≤ maxLen ∧ ∀ y ∈ t, y.size ≤ maxLen) (hL : l.length ≤ maxLen ∧ ∀ y ∈ l, VFunc y) (b1_0 : vm_0.length ≤ maxLen ∧ ∀ y ∈ vm_0, VFrame y) (b1_1 : vm_1.length ≤ maxLen ∧ ∀ y ∈ vm_1, VRec y) (b1_2 : (Lit.int .i64 vm_2).wf = true) (b1_3 : vm_3.length ≤ maxLen ∧ ∀ y ∈ vm_3, y.size ≤ maxLen) (b1_4 : (Lit.int .i64 vm_4).wf = true) (b1_5 : (Lit.int .i64 vm_5).wf = true) (b1_6 : (Lit.int .i64 vm_6).wf = true) (b1_7 : (Lit.int .i64 vm_7).wf = true) (b1_8 : vm_8.size ≤ maxLen) (b1_9 : (Lit.int .i64 vm_9).wf = true) : Calls Tryz.prog 6 #[.agg #[.slice A t.length c, .slice B l.length d], .agg #[.slice A1_0 vm_0.length c1_0, .slice A1_1 vm_1.length c1_1, .int .i64 vm_2, .slice A1_3 vm_3.length c1_3, .int .i64 vm_4, .int .i64 vm_5, .int .i64 vm_6, .int .i64 vm_7, .string vm_8, .int .i64 vm_9]] w fun e w' => e = .returned (.bool true) ∧ Below w.heap.size w w' := lawxWriteVm t l (⟨vm_0, vm_1, vm_2, vm_3, vm_4, vm_5, ⟨vm_6, vm_7, vm_8⟩, vm_9⟩ : DVm) w ht0 h_t hr0 h_l hr1_0 h_1_0 hr1_1 h_1_1 hr1_3 h_1_3 hT hL ⟨b1_0, b1_1, b1_2, b1_3, b1_4, b1_5, ⟨b1_6, b1_7, b1_8⟩, b1_9⟩
end Go.Proofs.YthinhlcfpaaldaaGreat.Dat
