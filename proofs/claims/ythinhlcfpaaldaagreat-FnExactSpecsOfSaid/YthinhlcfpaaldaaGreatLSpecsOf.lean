/- The walk of the law of SpecsOf. Written by a program (lawg.py). -/
import Derived.Test.YthinhlcfpaaldaaGreatK3
import Derived.Test.YthinhlcfpaaldaaGreatK4
import Derived.Test.YthinhlcfpaaldaaGreatSoJ
import Derived.Test.YthinhlcfpaaldaaGreatGFast1
namespace Go.Proofs.YthinhlcfpaaldaaGreat.Dat
open Go Go.RowKit Go.Proofs.YthinhlcfpaaldaaGreat.Mem
set_option linter.unusedVariables false
set_option linter.unusedSimpArgs false
set_option maxHeartbeats 8000000 in
set_option maxRecDepth 100000 in
theorem lawxSpecsOf (t : List ByteArray) (l : List DFunc) (fa : DFast) (w : World) {A B : Option Addr} {c d : Nat} {A1_4 : Option Addr} {c1_4 : Nat} {A1_5 : Option Addr} {c1_5 : Nat} (ht0 : Knd.str.Row w A t.length t) (_ : t.length ≤ c) (hr0 : kFunc.Row w B l.length l) (_ : l.length ≤ d) (hr1_4 : kFOp.Row w A1_4 fa.ops.length fa.ops) (_ : fa.ops.length ≤ c1_4) (hr1_5 : kExit.Row w A1_5 fa.exits.length fa.exits) (_ : fa.exits.length ≤ c1_5) (hT : t.length ≤ maxLen ∧ ∀ y ∈ t, y.size ≤ maxLen) (hL : l.length ≤ maxLen ∧ ∀ y ∈ l, VFunc y) (hV1 : VFast fa) : Calls Tryz.prog 3 #[.agg #[.slice A t.length c, .slice B l.length d], .agg #[.int .i64 fa.fn, .int .i64 fa.entry, .int .i64 fa.vals, .int .i64 fa.nums, .slice A1_4 fa.ops.length c1_4, .slice A1_5 fa.exits.length c1_5]] w fun e w' => e = .returned (.bool true) ∧ Below w.heap.size w w' := by
  by_cases z0 : ((szMod t l : Nat) : Int) ≤ (1048576 : Int)
  rotate_left
  · skip
    have Z0 := szModule A B c d t l (1048576)
    rw [lft_gt (by omega)] at Z0
    have hS := (St.start w).made (.cells #[.slice A t.length c, .slice B l.length d] 25 (0, 0))
    replace hS := hS.madeAt (.cells #[.int .i64 fa.fn, .int .i64 fa.entry, .int .i64 fa.vals, .int .i64 fa.nums, .slice A1_4 fa.ops.length c1_4, .slice A1_5 fa.exits.length c1_5] 29 (0, 0)) (w.heap.size + 1) (by simp)
    go_enter Tryz.func3, Tryz.ntmps3
    go_wp2_with fail
    refine (Z0 _ (ht0.below hS.bel) (hr0.below hS.bel) hT.1 hL.1 hT.2 (fun x h => (hL.2 x h).2.2.1) (by omega) (by omega)).mono ?_
    rintro e w1 ⟨rfl, hb⟩
    try clear x_P0
    try clear x_P1
    replace hS := hS.step hb
    clear hb
    have x_P0 := hS.cell 1 rfl
    have x_P1 := hS.cell 0 rfl
    go_wp2
    go_ret
    exact ⟨rfl, hS.bel⟩
  by_cases z1 : ((msFast fa : Nat) : Int) ≤ (1048576 - ((szMod t l : Nat) : Int) : Int)
  rotate_left
  · skip
    have Z0 := szModule A B c d t l (1048576)
    rw [lft_le z0] at Z0
    have g0 : 0 ≤ 1048576 - ((szMod t l : Nat) : Int) := by omega
    have Z1 := szFast_c A1_4 A1_5 c1_4 c1_5 fa (1048576 - ((szMod t l : Nat) : Int))
    rw [lft_gt (by omega)] at Z1
    have hS := (St.start w).made (.cells #[.slice A t.length c, .slice B l.length d] 25 (0, 0))
    replace hS := hS.madeAt (.cells #[.int .i64 fa.fn, .int .i64 fa.entry, .int .i64 fa.vals, .int .i64 fa.nums, .slice A1_4 fa.ops.length c1_4, .slice A1_5 fa.exits.length c1_5] 29 (0, 0)) (w.heap.size + 1) (by simp)
    go_enter Tryz.func3, Tryz.ntmps3
    go_wp2_with fail
    refine (Z0 _ (ht0.below hS.bel) (hr0.below hS.bel) hT.1 hL.1 hT.2 (fun x h => (hL.2 x h).2.2.1) (by omega) (by omega)).mono ?_
    rintro e w1 ⟨rfl, hb⟩
    try clear x_P0
    try clear x_P1
    replace hS := hS.step hb
    clear hb
    have x_P0 := hS.cell 1 rfl
    have x_P1 := hS.cell 0 rfl
    go_wp2_with fail
    refine (Z1 _ (hr1_4.below hS.bel) (hr1_5.below hS.bel) hV1 (by omega) (by omega)).mono ?_
    rintro e w2 ⟨rfl, hb⟩
    try clear x_P0
    try clear x_P1
    replace hS := hS.step hb
    clear hb
    have x_P0 := hS.cell 1 rfl
    have x_P1 := hS.cell 0 rfl
    go_wp2
    go_ret
    exact ⟨rfl, hS.bel⟩
  have Z0 := szModule A B c d t l (1048576)
  rw [lft_le z0] at Z0
  have g0 : 0 ≤ 1048576 - ((szMod t l : Nat) : Int) := by omega
  have Z1 := szFast_c A1_4 A1_5 c1_4 c1_5 fa (1048576 - ((szMod t l : Nat) : Int))
  rw [lft_le z1] at Z1
  have g1 : 0 ≤ 1048576 - ((szMod t l : Nat) : Int) - ((msFast fa : Nat) : Int) := by omega
  obtain ⟨htm, hm, hv⟩ := szMod_small z0
  have hv2 : ∀ x ∈ l, x.code.length ≤ 1048576 ∧ -9223372036854775808 ≤ x.locals ∧ x.locals ≤ 9223372036854775807 := fun x h => ⟨hv x h, wf_lo (hL.2 x h).2.1, wf_hi (hL.2 x h).2.1⟩
  have hlen1 := MFast_of (x := fa) (by omega)
  have hmc : msFast fa ≤ 1048576 := by omega
  have hct0 := ctFunc_small l hm hv
  have hct1_4 := ctLeFOp fa.ops
  have hct1_5 := ctLeExit fa.exits
  have hms1 : msFast fa = sumOf msFOp fa.ops + sumOf msExit fa.exits := rfl
  have hsmall0 := specs_small t l fa
  obtain ⟨X, hX⟩ : ∃ X : List DSpec, specsL t l fa = X := ⟨_, rfl⟩
  rw [hX] at hsmall0
  have HX := Lib.hid hX
  clear hX
  have hsmall := hsmall0
  have hcX := ctLeSpec X
  have hS := (St.start w).made (.cells #[.slice A t.length c, .slice B l.length d] 25 (0, 0))
  replace hS := hS.madeAt (.cells #[.int .i64 fa.fn, .int .i64 fa.entry, .int .i64 fa.vals, .int .i64 fa.nums, .slice A1_4 fa.ops.length c1_4, .slice A1_5 fa.exits.length c1_5] 29 (0, 0)) (w.heap.size + 1) (by simp)
  go_enter Tryz.func3, Tryz.ntmps3
  go_wp2_with fail
  refine (Z0 _ (ht0.below hS.bel) (hr0.below hS.bel) hT.1 hL.1 hT.2 (fun x h => (hL.2 x h).2.2.1) (by omega) (by omega)).mono ?_
  rintro e w1 ⟨rfl, hb⟩
  try clear x_P0
  try clear x_P1
  replace hS := hS.step hb
  clear hb
  have x_P0 := hS.cell 1 rfl
  have x_P1 := hS.cell 0 rfl
  go_wp2_with fail
  refine (Z1 _ (hr1_4.below hS.bel) (hr1_5.below hS.bel) hV1 (by omega) (by omega)).mono ?_
  rintro e w2 ⟨rfl, hb⟩
  try clear x_P0
  try clear x_P1
  replace hS := hS.step hb
  clear hb
  have x_P0 := hS.cell 1 rfl
  have x_P1 := hS.cell 0 rfl
  go_wp2
  try clear x_P0
  try clear x_P1
  replace hS := hS.drew
  refine wp_region_held_drew (S := (fun w' => w'.cell? ⟨w.heap.size, 0, none⟩ = some (.slice A t.length c) ∧ w'.cell? ⟨w.heap.size, 1, none⟩ = some (.slice B l.length d) ∧ w'.cell? ⟨w.heap.size + 1, 0, none⟩ = some (.int .i64 fa.fn) ∧ w'.cell? ⟨w.heap.size + 1, 1, none⟩ = some (.int .i64 fa.entry) ∧ w'.cell? ⟨w.heap.size + 1, 2, none⟩ = some (.int .i64 fa.vals) ∧ w'.cell? ⟨w.heap.size + 1, 3, none⟩ = some (.int .i64 fa.nums) ∧ w'.cell? ⟨w.heap.size + 1, 4, none⟩ = some (.slice A1_4 fa.ops.length c1_4) ∧ w'.cell? ⟨w.heap.size + 1, 5, none⟩ = some (.slice A1_5 fa.exits.length c1_5))) (by kernel_rfl) (⟨hS.cell 1 rfl 0, hS.cell 1 rfl 1, hS.cell 0 rfl 0, hS.cell 0 rfl 1, hS.cell 0 rfl 2, hS.cell 0 rfl 3, hS.cell 0 rfl 4, hS.cell 0 rfl 5⟩) (fun hHeld => ?_)
  (first | refine rQ1 ?_ | refine rQ2 ?_); (try simp only [pP]); (first | refine rW 2 ?_ | refine rV 2 ?_); (try simp only [pP])
  refine regC 1 rfl (by kernel_rfl) (by rfl) (fun Kq hKq => ?_)
  go_simp
  (with_reducible refine (toModule _ _ _ _ t l _ (ht0.below hS.bel) (hr0.below hS.bel) htm hm hv).mono ?_)
  rintro e w3 ⟨v, u, F3, G3, rfl, hot, hor, hnd, hF, hb⟩; replace hS := St.newMod hS hot hor hnd hF hb; clear hot hor hnd hF hb; obtain ⟨A3, c3, B3, d3, rfl, rfl, _, _⟩ := St.modR hS 0 rfl
  try go_wp2_with fail
  refine hKq.out _ _ (⟨hS.cell 2 rfl 0, hS.cell 2 rfl 1, hS.cell 1 rfl 0, hS.cell 1 rfl 1, hS.cell 1 rfl 2, hS.cell 1 rfl 3, hS.cell 1 rfl 4, hS.cell 1 rfl 5⟩) (fun hHeld => ?_)
  clear hKq Kq
  (try simp only [pP])
  refine regC 3 rfl (by kernel_rfl) (by rfl) (fun Kq hKq => ?_)
  go_simp
  (with_reducible refine (toFast_c _ _ _ _ fa _ (hr1_4.below hS.bel) (hr1_5.below hS.bel) hlen1).mono ?_)
  rintro e w4 ⟨v4_4, v4_5, F4_4, F4_5, rfl, hSx⟩; replace hS := hS.join hSx; clear hSx; obtain ⟨A4_4, c4_4, rfl, _, _⟩ := hS.row 0 rfl; obtain ⟨A4_5, c4_5, rfl, _, _⟩ := hS.row 1 rfl
  try go_wp2_with fail
  refine hKq.out _ _ (⟨hS.cell 4 rfl 0, hS.cell 4 rfl 1, hS.cell 3 rfl 0, hS.cell 3 rfl 1, hS.cell 3 rfl 2, hS.cell 3 rfl 3, hS.cell 3 rfl 4, hS.cell 3 rfl 5⟩) (fun hHeld => ?_)
  clear hKq Kq
  (try simp only [pP])
  refine regC 4 rfl (by kernel_rfl) (by rfl) (fun Kq hKq => ?_)
  go_simp
  (with_reducible refine (specs3 _ _ _ _ _ _ _ _ t l fa _ ⟨(St.modA hS 2 rfl).1, (St.modA hS 2 rfl).2, htm, hm, hT.2, hv2⟩ (St.rowA hS 0 rfl) (St.rowA hS 1 rfl) hlen1 hmc HX.out).mono ?_)
  intro e w5 hn; obtain ⟨A5, c5, F5, rfl, hS2⟩ := St.newRowF hS hn; replace hS := hS2; clear hn hS2
  try go_wp2_with fail
  refine hKq.out _ _ (⟨hS.cell 5 rfl 0, hS.cell 5 rfl 1, hS.cell 4 rfl 0, hS.cell 4 rfl 1, hS.cell 4 rfl 2, hS.cell 4 rfl 3, hS.cell 4 rfl 4, hS.cell 4 rfl 5⟩) (fun hHeld => ?_)
  clear hKq Kq
  (try simp only [pP])
  (first | refine rQ1 ?_ | refine rQ2 ?_); (try simp only [pP])
  refine wpAnyH_done (by kernel_rfl) ?_ _
  clear hHeld
  have x_P0 := hS.cell 5 rfl
  have x_P1 := hS.cell 4 rfl
  go_wp2_with fail
  refine (toModule _ _ _ _ t l _ (ht0.below hS.bel) (hr0.below hS.bel) htm hm hv).mono ?_
  rintro e w6 ⟨v, u, F6, G6, rfl, hot, hor, hnd, hF, hb⟩
  try clear x_P0
  try clear x_P1
  replace hS := St.newMod hS hot hor hnd hF hb
  clear hot hor hnd hF hb
  obtain ⟨A6, c6, B6, d6, rfl, rfl, _, _⟩ := St.modR hS 0 rfl
  have x_P0 := hS.cell 6 rfl
  have x_P1 := hS.cell 5 rfl
  try clear x_P0
  try clear x_P1
  try clear x_b7
  replace hS := hS.made (.cells #[.slice A6 t.length c6, .slice B6 l.length d6] 36 (0, 0))
  have x_P0 := hS.cell 7 rfl
  have x_P1 := hS.cell 6 rfl
  have x_b7 := hS.cell 0 rfl
  go_wp2_with fail
  refine (toFast_c _ _ _ _ fa _ (hr1_4.below hS.bel) (hr1_5.below hS.bel) hlen1).mono ?_
  rintro e w8 ⟨v8_4, v8_5, F8_4, F8_5, rfl, hSx⟩
  try clear x_P0
  try clear x_P1
  try clear x_b7
  replace hS := hS.join hSx
  clear hSx
  obtain ⟨A8_4, c8_4, rfl, _, _⟩ := hS.row 0 rfl
  obtain ⟨A8_5, c8_5, rfl, _, _⟩ := hS.row 1 rfl
  try dsimp only [List.set_cons_succ, List.set_cons_zero, List.cons_append, List.nil_append, List.eraseIdx_cons_succ, List.eraseIdx_cons_zero] at hS
  have x_P0 := hS.cell 9 rfl
  have x_P1 := hS.cell 8 rfl
  have x_b7 := hS.cell 2 rfl
  try clear x_P0
  try clear x_P1
  try clear x_b7
  try clear x_b9
  replace hS := hS.made (.cells #[.int .i64 fa.fn, .int .i64 fa.entry, .int .i64 fa.vals, .int .i64 fa.nums, .slice A8_4 fa.ops.length c8_4, .slice A8_5 fa.exits.length c8_5] 41 (0, 0))
  have x_P0 := hS.cell 10 rfl
  have x_P1 := hS.cell 9 rfl
  have x_b7 := hS.cell 3 rfl
  have x_b9 := hS.cell 0 rfl
  go_wp2_with fail
  refine (specsI _ _ _ _ _ _ _ _ t l fa _ ⟨(St.modA hS 4 rfl).1, (St.modA hS 4 rfl).2, htm, hm, hT.2, hv2⟩ (St.rowA hS 1 rfl) (St.rowA hS 2 rfl) hlen1 hmc HX.out).mono ?_
  intro e w10 hn
  try clear x_P0
  try clear x_P1
  try clear x_b7
  try clear x_b9
  obtain ⟨A10, c10, F10, rfl, hS2⟩ := St.newRowF hS hn
  replace hS := hS2
  clear hn hS2
  try dsimp only [List.set_cons_succ, List.set_cons_zero, List.cons_append, List.nil_append, List.eraseIdx_cons_succ, List.eraseIdx_cons_zero] at hS
  have x_P0 := hS.cell 11 rfl
  have x_P1 := hS.cell 10 rfl
  have x_b7 := hS.cell 4 rfl
  have x_b9 := hS.cell 1 rfl
  as_aux_lemma =>
    go_wp2_with fail
    refine (eqSpecS_c _ _ _ _ X _ (St.rowA hS 0 rfl) (St.rowA hS 6 rfl)).mono ?_
    rintro e w11 ⟨rfl, hb⟩
    try clear x_P0
    try clear x_P1
    try clear x_b7
    try clear x_b9
    replace hS := hS.step hb
    clear hb
    have x_P0 := hS.cell 11 rfl
    have x_P1 := hS.cell 10 rfl
    have x_b7 := hS.cell 4 rfl
    have x_b9 := hS.cell 1 rfl
    go_wp2
    try clear x_P0
    try clear x_P1
    try clear x_b7
    try clear x_b9
    replace hS := hS.drew
    refine wp_region_held_drew (S := (fun w' => w'.cell? ⟨w6.heap.size, 0, none⟩ = some (.slice A6 t.length c6) ∧ w'.cell? ⟨w6.heap.size, 1, none⟩ = some (.slice B6 l.length d6) ∧ w'.cell? ⟨w.heap.size, 0, none⟩ = some (.slice A t.length c) ∧ w'.cell? ⟨w.heap.size, 1, none⟩ = some (.slice B l.length d))) (by kernel_rfl) (⟨hS.cell 4 rfl 0, hS.cell 4 rfl 1, hS.cell 11 rfl 0, hS.cell 11 rfl 1⟩) (fun hHeld => ?_)
    (iterate 2 (first | refine rQ1 ?_ | refine rQ2 ?_); try simp only [pP])
    refine regC 2 rfl (by kernel_rfl) (by rfl) (fun Kq hKq => ?_)
    go_simp
    (with_reducible refine (toModule _ _ _ _ t l _ (ht0.below hS.bel) (hr0.below hS.bel) htm hm hv).mono ?_)
    rintro e w12 ⟨v, u, F12, G12, rfl, hot, hor, hnd, hF, hb⟩; replace hS := St.newMod hS hot hor hnd hF hb; clear hot hor hnd hF hb; obtain ⟨A12, c12, B12, d12, rfl, rfl, _, _⟩ := St.modR hS 0 rfl
    try go_wp2_with fail
    refine hKq.out _ _ (⟨hS.cell 5 rfl 0, hS.cell 5 rfl 1, hS.cell 12 rfl 0, hS.cell 12 rfl 1⟩) (fun hHeld => ?_)
    clear hKq Kq
    (try simp only [pP])
    refine regC 3 rfl (by kernel_rfl) (by rfl) (fun Kq hKq => ?_)
    go_simp
    (with_reducible refine (eqModule _ _ _ _ _ _ _ _ t l _ (St.modA hS 6 rfl).1 (St.modA hS 6 rfl).2 (St.modA hS 0 rfl).1 (St.modA hS 0 rfl).2).mono ?_)
    rintro e w13 ⟨rfl, hb⟩; replace hS := hS.step hb; clear hb
    try go_wp2_with fail
    refine hKq.out _ _ (⟨hS.cell 5 rfl 0, hS.cell 5 rfl 1, hS.cell 12 rfl 0, hS.cell 12 rfl 1⟩) (fun hHeld => ?_)
    clear hKq Kq
    (try simp only [pP])
    (first | refine rQ1 ?_ | refine rQ2 ?_); (try simp only [pP])
    refine wpAnyH_done (by kernel_rfl) ?_ _
    clear hHeld
    have x_P0 := hS.cell 12 rfl
    have x_P1 := hS.cell 11 rfl
    have x_b7 := hS.cell 5 rfl
    have x_b9 := hS.cell 2 rfl
    go_wp2
    try clear x_P0
    try clear x_P1
    try clear x_b7
    try clear x_b9
    replace hS := hS.drew
    refine wp_region_held_drew (S := (fun w' => w'.cell? ⟨w8.heap.size, 0, none⟩ = some (.int .i64 fa.fn) ∧ w'.cell? ⟨w8.heap.size, 1, none⟩ = some (.int .i64 fa.entry) ∧ w'.cell? ⟨w8.heap.size, 2, none⟩ = some (.int .i64 fa.vals) ∧ w'.cell? ⟨w8.heap.size, 3, none⟩ = some (.int .i64 fa.nums) ∧ w'.cell? ⟨w8.heap.size, 4, none⟩ = some (.slice A8_4 fa.ops.length c8_4) ∧ w'.cell? ⟨w8.heap.size, 5, none⟩ = some (.slice A8_5 fa.exits.length c8_5) ∧ w'.cell? ⟨w.heap.size + 1, 0, none⟩ = some (.int .i64 fa.fn) ∧ w'.cell? ⟨w.heap.size + 1, 1, none⟩ = some (.int .i64 fa.entry) ∧ w'.cell? ⟨w.heap.size + 1, 2, none⟩ = some (.int .i64 fa.vals) ∧ w'.cell? ⟨w.heap.size + 1, 3, none⟩ = some (.int .i64 fa.nums) ∧ w'.cell? ⟨w.heap.size + 1, 4, none⟩ = some (.slice A1_4 fa.ops.length c1_4) ∧ w'.cell? ⟨w.heap.size + 1, 5, none⟩ = some (.slice A1_5 fa.exits.length c1_5))) (by kernel_rfl) (⟨hS.cell 2 rfl 0, hS.cell 2 rfl 1, hS.cell 2 rfl 2, hS.cell 2 rfl 3, hS.cell 2 rfl 4, hS.cell 2 rfl 5, hS.cell 11 rfl 0, hS.cell 11 rfl 1, hS.cell 11 rfl 2, hS.cell 11 rfl 3, hS.cell 11 rfl 4, hS.cell 11 rfl 5⟩) (fun hHeld => ?_)
    (iterate 2 (first | refine rQ1 ?_ | refine rQ2 ?_); try simp only [pP])
    refine regC 2 rfl (by kernel_rfl) (by rfl) (fun Kq hKq => ?_)
    go_simp
    (with_reducible refine (toFast_c _ _ _ _ fa _ (hr1_4.below hS.bel) (hr1_5.below hS.bel) hlen1).mono ?_)
    rintro e w14 ⟨v14_4, v14_5, F14_4, F14_5, rfl, hSx⟩; replace hS := hS.join hSx; clear hSx; obtain ⟨A14_4, c14_4, rfl, _, _⟩ := hS.row 0 rfl; obtain ⟨A14_5, c14_5, rfl, _, _⟩ := hS.row 1 rfl
    try go_wp2_with fail
    refine hKq.out _ _ (⟨hS.cell 4 rfl 0, hS.cell 4 rfl 1, hS.cell 4 rfl 2, hS.cell 4 rfl 3, hS.cell 4 rfl 4, hS.cell 4 rfl 5, hS.cell 13 rfl 0, hS.cell 13 rfl 1, hS.cell 13 rfl 2, hS.cell 13 rfl 3, hS.cell 13 rfl 4, hS.cell 13 rfl 5⟩) (fun hHeld => ?_)
    clear hKq Kq
    (try simp only [pP])
    refine regC 3 rfl (by kernel_rfl) (by rfl) (fun Kq hKq => ?_)
    go_simp
    (with_reducible refine (eqFast_c _ _ _ _ _ _ _ _ fa _ (St.rowA hS 5 rfl) (St.rowA hS 6 rfl) (St.rowA hS 0 rfl) (St.rowA hS 1 rfl)).mono ?_)
    rintro e w15 ⟨rfl, hb⟩; replace hS := hS.step hb; clear hb
    try go_wp2_with fail
    refine hKq.out _ _ (⟨hS.cell 4 rfl 0, hS.cell 4 rfl 1, hS.cell 4 rfl 2, hS.cell 4 rfl 3, hS.cell 4 rfl 4, hS.cell 4 rfl 5, hS.cell 13 rfl 0, hS.cell 13 rfl 1, hS.cell 13 rfl 2, hS.cell 13 rfl 3, hS.cell 13 rfl 4, hS.cell 13 rfl 5⟩) (fun hHeld => ?_)
    clear hKq Kq
    (try simp only [pP])
    (first | refine rQ1 ?_ | refine rQ2 ?_); (try simp only [pP])
    refine wpAnyH_done (by kernel_rfl) ?_ _
    clear hHeld
    have x_P0 := hS.cell 14 rfl
    have x_P1 := hS.cell 13 rfl
    have x_b7 := hS.cell 7 rfl
    have x_b9 := hS.cell 4 rfl
    go_wp2_with fail
    refine (markModule _ _ t l 1 F6 G6 _ (hS.get 8 rfl).1 (hS.get 8 rfl).2 (hS.nodup 8 rfl) (by omega) (by omega) (by omega) (by omega) (fun x h => by have := hv x h; omega)).mono ?_
    rintro e w16 ⟨rfl, hmt, hml, hB⟩
    try clear x_P0
    try clear x_P1
    try clear x_b7
    try clear x_b9
    have hndx : (F6 ++ G6).Nodup := by have h9 := hS.nodup 8 rfl; exact h9
    replace hS := hS.upd (r' := Res.mod _ _ _ _ F6 G6) 8 rfl hB ⟨hmt, hml⟩ hndx (fun q hq => .inl hq)
    clear hmt hml hB hndx
    try dsimp only [List.set_cons_succ, List.set_cons_zero, List.cons_append, List.nil_append, List.eraseIdx_cons_succ, List.eraseIdx_cons_zero] at hS
    have x_P0 := hS.cell 14 rfl
    have x_P1 := hS.cell 13 rfl
    have x_b7 := hS.cell 7 rfl
    have x_b9 := hS.cell 4 rfl
    as_aux_lemma =>
      go_wp2_with fail
      refine (markFast_c fa _ _ F8_4 F8_5 (1 + (t.length : Int) + (ctL ctFunc l : Int)) w _ _ hS 5 rfl 6 rfl (by decide) (by omega) (by omega) hlen1).mono ?_
      rintro e w17 ⟨rfl, hS2⟩
      try clear x_P0
      try clear x_P1
      try clear x_b7
      try clear x_b9
      replace hS := hS2
      clear hS2
      try dsimp only [List.set_cons_succ, List.set_cons_zero, List.cons_append, List.nil_append, List.eraseIdx_cons_succ, List.eraseIdx_cons_zero] at hS
      have x_P0 := hS.cell 14 rfl
      have x_P1 := hS.cell 13 rfl
      have x_b7 := hS.cell 7 rfl
      have x_b9 := hS.cell 4 rfl
      as_aux_lemma =>
        go_wp2_with fail
        refine (eqSpecS_c _ _ _ _ X _ (St.rowA hS 3 rfl) (St.rowA hS 9 rfl)).mono ?_
        rintro e w18 ⟨rfl, hb⟩
        try clear x_P0
        try clear x_P1
        try clear x_b7
        try clear x_b9
        replace hS := hS.step hb
        clear hb
        have x_P0 := hS.cell 14 rfl
        have x_P1 := hS.cell 13 rfl
        have x_b7 := hS.cell 7 rfl
        have x_b9 := hS.cell 4 rfl
        go_wp2_with fail
        refine (markSpecS_c _ X 1 F10 _ (St.own_ hS 3 rfl) (hS.nodup 3 rfl) (by omega) (by omega) hsmall).mono ?_
        rintro e w19 ⟨rfl, hmo, hB⟩
        try clear x_P0
        try clear x_P1
        try clear x_b7
        try clear x_b9
        have hndx : F10.Nodup := by have h9 := hS.nodup 3 rfl; exact h9
        replace hS := hS.upd (r' := Res.own kSpec 110 _ (mkL mkSpec ctSpec 1 X) F10) 3 rfl hB hmo hndx (fun q hq => .inl hq)
        clear hmo hB hndx
        try dsimp only [List.set_cons_succ, List.set_cons_zero, List.cons_append, List.nil_append, List.eraseIdx_cons_succ, List.eraseIdx_cons_zero] at hS
        have x_P0 := hS.cell 14 rfl
        have x_P1 := hS.cell 13 rfl
        have x_b7 := hS.cell 7 rfl
        have x_b9 := hS.cell 4 rfl
        as_aux_lemma =>
          go_wp2_with fail
          refine (heldSpecS_c _ _ X 1 _ (St.rowN hS 3 rfl (mkL_len _ _ _ _)) (by omega) (by omega) hsmall).mono ?_
          rintro e w20 ⟨rfl, hb⟩
          try clear x_P0
          try clear x_P1
          try clear x_b7
          try clear x_b9
          replace hS := hS.step hb
          clear hb
          have x_P0 := hS.cell 14 rfl
          have x_P1 := hS.cell 13 rfl
          have x_b7 := hS.cell 7 rfl
          have x_b9 := hS.cell 4 rfl
          go_wp2
          try clear x_P0
          try clear x_P1
          try clear x_b7
          try clear x_b9
          replace hS := hS.drew
          refine wp_region_held_drew (S := (fun w' => w'.cell? ⟨w.heap.size, 0, none⟩ = some (.slice A t.length c) ∧ w'.cell? ⟨w.heap.size, 1, none⟩ = some (.slice B l.length d) ∧ w'.cell? ⟨w.heap.size + 1, 0, none⟩ = some (.int .i64 fa.fn) ∧ w'.cell? ⟨w.heap.size + 1, 1, none⟩ = some (.int .i64 fa.entry) ∧ w'.cell? ⟨w.heap.size + 1, 2, none⟩ = some (.int .i64 fa.vals) ∧ w'.cell? ⟨w.heap.size + 1, 3, none⟩ = some (.int .i64 fa.nums) ∧ w'.cell? ⟨w.heap.size + 1, 4, none⟩ = some (.slice A1_4 fa.ops.length c1_4) ∧ w'.cell? ⟨w.heap.size + 1, 5, none⟩ = some (.slice A1_5 fa.exits.length c1_5))) (by kernel_rfl) (⟨hS.cell 14 rfl 0, hS.cell 14 rfl 1, hS.cell 13 rfl 0, hS.cell 13 rfl 1, hS.cell 13 rfl 2, hS.cell 13 rfl 3, hS.cell 13 rfl 4, hS.cell 13 rfl 5⟩) (fun hHeld => ?_)
          (first | refine rQ1 ?_ | refine rQ2 ?_); (try simp only [pP]); (first | refine rW 2 ?_ | refine rV 2 ?_); (try simp only [pP])
          refine regC 1 rfl (by kernel_rfl) (by rfl) (fun Kq hKq => ?_)
          go_simp
          (with_reducible refine (toModule _ _ _ _ t l _ (ht0.below hS.bel) (hr0.below hS.bel) htm hm hv).mono ?_)
          rintro e w21 ⟨v, u, F21, G21, rfl, hot, hor, hnd, hF, hb⟩; replace hS := St.newMod hS hot hor hnd hF hb; clear hot hor hnd hF hb; obtain ⟨A21, c21, B21, d21, rfl, rfl, _, _⟩ := St.modR hS 0 rfl
          try go_wp2_with fail
          refine hKq.out _ _ (⟨hS.cell 15 rfl 0, hS.cell 15 rfl 1, hS.cell 14 rfl 0, hS.cell 14 rfl 1, hS.cell 14 rfl 2, hS.cell 14 rfl 3, hS.cell 14 rfl 4, hS.cell 14 rfl 5⟩) (fun hHeld => ?_)
          clear hKq Kq
          (try simp only [pP])
          refine regC 3 rfl (by kernel_rfl) (by rfl) (fun Kq hKq => ?_)
          go_simp
          (with_reducible refine (toFast_c _ _ _ _ fa _ (hr1_4.below hS.bel) (hr1_5.below hS.bel) hlen1).mono ?_)
          rintro e w22 ⟨v22_4, v22_5, F22_4, F22_5, rfl, hSx⟩; replace hS := hS.join hSx; clear hSx; obtain ⟨A22_4, c22_4, rfl, _, _⟩ := hS.row 0 rfl; obtain ⟨A22_5, c22_5, rfl, _, _⟩ := hS.row 1 rfl
          try go_wp2_with fail
          refine hKq.out _ _ (⟨hS.cell 17 rfl 0, hS.cell 17 rfl 1, hS.cell 16 rfl 0, hS.cell 16 rfl 1, hS.cell 16 rfl 2, hS.cell 16 rfl 3, hS.cell 16 rfl 4, hS.cell 16 rfl 5⟩) (fun hHeld => ?_)
          clear hKq Kq
          (try simp only [pP])
          refine regC 4 rfl (by kernel_rfl) (by rfl) (fun Kq hKq => ?_)
          go_simp
          (with_reducible refine (specsI _ _ _ _ _ _ _ _ t l fa _ ⟨(St.modA hS 2 rfl).1, (St.modA hS 2 rfl).2, htm, hm, hT.2, hv2⟩ (St.rowA hS 0 rfl) (St.rowA hS 1 rfl) hlen1 hmc HX.out).mono ?_)
          intro e w23 hn; obtain ⟨A23, c23, F23, rfl, hS2⟩ := St.newRowF hS hn; replace hS := hS2; clear hn hS2
          try go_wp2_with fail
          refine hKq.out _ _ (⟨hS.cell 18 rfl 0, hS.cell 18 rfl 1, hS.cell 17 rfl 0, hS.cell 17 rfl 1, hS.cell 17 rfl 2, hS.cell 17 rfl 3, hS.cell 17 rfl 4, hS.cell 17 rfl 5⟩) (fun hHeld => ?_)
          clear hKq Kq
          (try simp only [pP])
          (first | refine rQ1 ?_ | refine rQ2 ?_); (try simp only [pP])
          refine wpAnyH_done (by kernel_rfl) ?_ _
          clear hHeld
          have x_P0 := hS.cell 18 rfl
          have x_P1 := hS.cell 17 rfl
          have x_b7 := hS.cell 11 rfl
          have x_b9 := hS.cell 8 rfl
          go_wp2_with fail
          refine (eqSpecS_c _ _ _ _ X _ (St.rowA hS 0 rfl) (St.rowA hS 13 rfl)).mono ?_
          rintro e w24 ⟨rfl, hb⟩
          try clear x_P0
          try clear x_P1
          try clear x_b7
          try clear x_b9
          replace hS := hS.step hb
          clear hb
          have x_P0 := hS.cell 18 rfl
          have x_P1 := hS.cell 17 rfl
          have x_b7 := hS.cell 11 rfl
          have x_b9 := hS.cell 8 rfl
          go_wp2_with fail
          refine (heldSpecS_c _ _ X 1 _ (St.rowN hS 7 rfl (mkL_len _ _ _ _)) (by omega) (by omega) hsmall).mono ?_
          rintro e w25 ⟨rfl, hb⟩
          try clear x_P0
          try clear x_P1
          try clear x_b7
          try clear x_b9
          replace hS := hS.step hb
          clear hb
          have x_P0 := hS.cell 18 rfl
          have x_P1 := hS.cell 17 rfl
          have x_b7 := hS.cell 11 rfl
          have x_b9 := hS.cell 8 rfl
          go_wp2
          go_ret
          exact ⟨rfl, hS.bel⟩
theorem lawSpecsOf (t : List ByteArray) (l : List DFunc) (fa_0 : Int) (fa_1 : Int) (fa_2 : Int) (fa_3 : Int) (fa_4 : List DFOp) (fa_5 : List DExit) (w : World) {A B : Option Addr} {c d : Nat} {A1_4 : Option Addr} {c1_4 : Nat} {A1_5 : Option Addr} {c1_5 : Nat} (ht0 : Knd.str.Row w A t.length t) (h_t : t.length ≤ c) (hr0 : kFunc.Row w B l.length l) (h_l : l.length ≤ d) (hr1_4 : kFOp.Row w A1_4 fa_4.length fa_4) (h_1_4 : fa_4.length ≤ c1_4) (hr1_5 : kExit.Row w A1_5 fa_5.length fa_5) (h_1_5 : fa_5.length ≤ c1_5) (hT : t.length ≤ maxLen ∧ ∀ y ∈ t, y.size ≤ maxLen) (hL : l.length ≤ maxLen ∧ ∀ y ∈ l, VFunc y) (b1_0 : (Lit.int .i64 fa_0).wf = true) (b1_1 : (Lit.int .i64 fa_1).wf = true) (b1_2 : (Lit.int .i64 fa_2).wf = true) (b1_3 : (Lit.int .i64 fa_3).wf = true) (b1_4 : fa_4.length ≤ maxLen ∧ ∀ y ∈ fa_4, VFOp y) (b1_5 : fa_5.length ≤ maxLen ∧ ∀ y ∈ fa_5, VExit y) : Calls Tryz.prog 3 #[.agg #[.slice A t.length c, .slice B l.length d], .agg #[.int .i64 fa_0, .int .i64 fa_1, .int .i64 fa_2, .int .i64 fa_3, .slice A1_4 fa_4.length c1_4, .slice A1_5 fa_5.length c1_5]] w fun e w' => e = .returned (.bool true) ∧ Below w.heap.size w w' := lawxSpecsOf t l (⟨fa_0, fa_1, fa_2, fa_3, fa_4, fa_5⟩ : DFast) w ht0 h_t hr0 h_l hr1_4 h_1_4 hr1_5 h_1_5 hT hL ⟨b1_0, b1_1, b1_2, b1_3, b1_4, b1_5⟩
end Go.Proofs.YthinhlcfpaaldaaGreat.Dat
