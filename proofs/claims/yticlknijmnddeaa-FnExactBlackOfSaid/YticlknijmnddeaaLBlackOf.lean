/- The walk of the law of BlackOf. Written by a program (lawg.py). -/
import Derived.Test.YticlknijmnddeaaK3
import Derived.Test.YticlknijmnddeaaK4
import Derived.Test.YticlknijmnddeaaBlack
import Derived.Test.YticlknijmnddeaaGTier
namespace Go.Proofs.Yticlknijmnddeaa.Dat
open Go Go.RowKit Go.Proofs.Yticlknijmnddeaa.Mem
set_option linter.unusedVariables false
set_option linter.unusedSimpArgs false
set_option maxHeartbeats 8000000 in
set_option maxRecDepth 100000 in
theorem lawxBlackOf (ti : DTier) (w : World) {A0_0 : Option Addr} {c0_0 : Nat} {A0_1 : Option Addr} {c0_1 : Nat} {A0_3 : Option Addr} {c0_3 : Nat} {A0_10 : Option Addr} {c0_10 : Nat} {A0_11 : Option Addr} {c0_11 : Nat} {A0_12 : Option Addr} {c0_12 : Nat} (hr0_0 : kFrame.Row w A0_0 ti.vm.frames.length ti.vm.frames) (_ : ti.vm.frames.length ≤ c0_0) (hr0_1 : kRec.Row w A0_1 ti.vm.heap.length ti.vm.heap) (_ : ti.vm.heap.length ≤ c0_1) (hr0_3 : Knd.str.Row w A0_3 ti.vm.out.length ti.vm.out) (_ : ti.vm.out.length ≤ c0_3) (hr0_10 : kSite.Row w A0_10 ti.sites.length ti.sites) (_ : ti.sites.length ≤ c0_10) (hr0_11 : kFast.Row w A0_11 ti.codes.length ti.codes) (_ : ti.codes.length ≤ c0_11) (hr0_12 : kFail.Row w A0_12 ti.fails.length ti.fails) (_ : ti.fails.length ≤ c0_12) (hV0 : VTier ti) : Calls Try.prog 7 #[.agg #[.slice A0_0 ti.vm.frames.length c0_0, .slice A0_1 ti.vm.heap.length c0_1, .int .i64 ti.vm.made, .slice A0_3 ti.vm.out.length c0_3, .int .i64 ti.vm.status, .int .i64 ti.vm.trap, .int .i64 ti.vm.value.k, .int .i64 ti.vm.value.n, .string ti.vm.value.s, .int .i64 ti.vm.steps, .slice A0_10 ti.sites.length c0_10, .slice A0_11 ti.codes.length c0_11, .slice A0_12 ti.fails.length c0_12, .int .i64 ti.guards, .int .i64 ti.entered]] w fun e w' => e = .returned (.bool true) ∧ Below w.heap.size w w' := by
  by_cases z0 : ((msTier ti : Nat) : Int) ≤ (1048576 : Int)
  rotate_left
  · skip
    have Z0 := szTier_c A0_0 A0_1 A0_3 A0_10 A0_11 A0_12 c0_0 c0_1 c0_3 c0_10 c0_11 c0_12 ti (1048576)
    rw [lft_gt (by omega)] at Z0
    have hS := (St.start w).made (.cells #[.slice A0_0 ti.vm.frames.length c0_0, .slice A0_1 ti.vm.heap.length c0_1, .int .i64 ti.vm.made, .slice A0_3 ti.vm.out.length c0_3, .int .i64 ti.vm.status, .int .i64 ti.vm.trap, .int .i64 ti.vm.value.k, .int .i64 ti.vm.value.n, .string ti.vm.value.s, .int .i64 ti.vm.steps, .slice A0_10 ti.sites.length c0_10, .slice A0_11 ti.codes.length c0_11, .slice A0_12 ti.fails.length c0_12, .int .i64 ti.guards, .int .i64 ti.entered] 69 (0, 0))
    go_enter Try.func7, Try.ntmps7
    go_wp2_with fail
    refine (Z0 _ (hr0_0.below hS.bel) (hr0_1.below hS.bel) (hr0_3.below hS.bel) (hr0_10.below hS.bel) (hr0_11.below hS.bel) (hr0_12.below hS.bel) hV0 (by omega) (by omega)).mono ?_
    rintro e w1 ⟨rfl, hb⟩
    try clear x_P0
    replace hS := hS.step hb
    clear hb
    have x_P0 := hS.cell 0 rfl
    go_wp2
    go_ret
    exact ⟨rfl, hS.bel⟩
  have Z0 := szTier_c A0_0 A0_1 A0_3 A0_10 A0_11 A0_12 c0_0 c0_1 c0_3 c0_10 c0_11 c0_12 ti (1048576)
  rw [lft_le z0] at Z0
  have g0 : 0 ≤ 1048576 - ((msTier ti : Nat) : Int) := by omega
  have hlen0 := MTier_of (x := ti) (by omega)
  have hct0_0 := ctLeFrame ti.vm.frames
  have hct0_1 := ctLeRec ti.vm.heap
  have hct0_3 := ctL_const 1 ti.vm.out
  have hct0_10 := ctLeSite ti.sites
  have hct0_11 := ctLeFast ti.codes
  have hct0_12 := ctLeFail ti.fails
  have hms0 : msTier ti = msVm ti.vm + ti.sites.length + sumOf msFast ti.codes + ti.fails.length := rfl
  have hms0_vm : msVm ti.vm = sumOf msFrame ti.vm.frames + sumOf msRec ti.vm.heap + sumOf ByteArray.size ti.vm.out + msValue ti.vm.value := rfl
  have hcl0_3 : ti.vm.out.length ≤ sumOf ByteArray.size ti.vm.out := by unfold sumOf; omega
  have hsmall0 := black_small ti hlen0
  obtain ⟨X, hX⟩ : ∃ X : List DSpec, blackL ti.fails = X := ⟨_, rfl⟩
  rw [hX] at hsmall0
  have HX := Lib.hid hX
  clear hX
  have hsmall := hsmall0
  have hcX := ctLeSpec X
  have hS := (St.start w).made (.cells #[.slice A0_0 ti.vm.frames.length c0_0, .slice A0_1 ti.vm.heap.length c0_1, .int .i64 ti.vm.made, .slice A0_3 ti.vm.out.length c0_3, .int .i64 ti.vm.status, .int .i64 ti.vm.trap, .int .i64 ti.vm.value.k, .int .i64 ti.vm.value.n, .string ti.vm.value.s, .int .i64 ti.vm.steps, .slice A0_10 ti.sites.length c0_10, .slice A0_11 ti.codes.length c0_11, .slice A0_12 ti.fails.length c0_12, .int .i64 ti.guards, .int .i64 ti.entered] 69 (0, 0))
  go_enter Try.func7, Try.ntmps7
  go_wp2_with fail
  refine (Z0 _ (hr0_0.below hS.bel) (hr0_1.below hS.bel) (hr0_3.below hS.bel) (hr0_10.below hS.bel) (hr0_11.below hS.bel) (hr0_12.below hS.bel) hV0 (by omega) (by omega)).mono ?_
  rintro e w1 ⟨rfl, hb⟩
  try clear x_P0
  replace hS := hS.step hb
  clear hb
  have x_P0 := hS.cell 0 rfl
  go_wp2_with fail
  refine (toTier_c _ _ _ _ _ _ _ _ _ _ _ _ ti _ (hr0_0.below hS.bel) (hr0_1.below hS.bel) (hr0_3.below hS.bel) (hr0_10.below hS.bel) (hr0_11.below hS.bel) (hr0_12.below hS.bel) hlen0).mono ?_
  rintro e w2 ⟨v2_0, v2_1, v2_3, v2_10, v2_11, v2_12, F2_0, F2_1, F2_3, F2_10, F2_11, F2_12, rfl, hSx⟩
  try clear x_P0
  replace hS := hS.join hSx
  clear hSx
  obtain ⟨A2_0, c2_0, rfl, _, _⟩ := hS.row 0 rfl
  obtain ⟨A2_1, c2_1, rfl, _, _⟩ := hS.row 1 rfl
  obtain ⟨A2_3, c2_3, rfl, _, _⟩ := hS.row 2 rfl
  obtain ⟨A2_10, c2_10, rfl, _, _⟩ := hS.row 3 rfl
  obtain ⟨A2_11, c2_11, rfl, _, _⟩ := hS.row 4 rfl
  obtain ⟨A2_12, c2_12, rfl, _, _⟩ := hS.row 5 rfl
  try dsimp only [List.set_cons_succ, List.set_cons_zero, List.cons_append, List.nil_append, List.eraseIdx_cons_succ, List.eraseIdx_cons_zero] at hS
  have x_P0 := hS.cell 6 rfl
  go_wp2_with fail
  refine (black3 _ _ _ _ _ _ _ _ _ _ _ _ ti _ (St.rowA hS 0 rfl) (St.rowA hS 1 rfl) (St.rowA hS 2 rfl) (St.rowA hS 3 rfl) (St.rowA hS 4 rfl) (St.rowA hS 5 rfl) hlen0 HX.out).mono ?_
  intro e w3 hn
  try clear x_P0
  obtain ⟨A3, c3, F3, rfl, hS2⟩ := St.newRowF hS hn
  replace hS := hS2
  clear hn hS2
  replace hS := (hS.front 1 rfl).drop
  replace hS := (hS.front 1 rfl).drop
  replace hS := (hS.front 1 rfl).drop
  replace hS := (hS.front 1 rfl).drop
  replace hS := (hS.front 1 rfl).drop
  replace hS := (hS.front 1 rfl).drop
  try dsimp only [List.set_cons_succ, List.set_cons_zero, List.cons_append, List.nil_append, List.eraseIdx_cons_succ, List.eraseIdx_cons_zero] at hS
  have x_P0 := hS.cell 1 rfl
  as_aux_lemma =>
    go_wp2_with fail
    refine (toTier_c _ _ _ _ _ _ _ _ _ _ _ _ ti _ (hr0_0.below hS.bel) (hr0_1.below hS.bel) (hr0_3.below hS.bel) (hr0_10.below hS.bel) (hr0_11.below hS.bel) (hr0_12.below hS.bel) hlen0).mono ?_
    rintro e w4 ⟨v4_0, v4_1, v4_3, v4_10, v4_11, v4_12, F4_0, F4_1, F4_3, F4_10, F4_11, F4_12, rfl, hSx⟩
    try clear x_P0
    replace hS := hS.join hSx
    clear hSx
    obtain ⟨A4_0, c4_0, rfl, _, _⟩ := hS.row 0 rfl
    obtain ⟨A4_1, c4_1, rfl, _, _⟩ := hS.row 1 rfl
    obtain ⟨A4_3, c4_3, rfl, _, _⟩ := hS.row 2 rfl
    obtain ⟨A4_10, c4_10, rfl, _, _⟩ := hS.row 3 rfl
    obtain ⟨A4_11, c4_11, rfl, _, _⟩ := hS.row 4 rfl
    obtain ⟨A4_12, c4_12, rfl, _, _⟩ := hS.row 5 rfl
    try dsimp only [List.set_cons_succ, List.set_cons_zero, List.cons_append, List.nil_append, List.eraseIdx_cons_succ, List.eraseIdx_cons_zero] at hS
    have x_P0 := hS.cell 7 rfl
    try clear x_P0
    try clear x_b5
    replace hS := hS.made (.cells #[.slice A4_0 ti.vm.frames.length c4_0, .slice A4_1 ti.vm.heap.length c4_1, .int .i64 ti.vm.made, .slice A4_3 ti.vm.out.length c4_3, .int .i64 ti.vm.status, .int .i64 ti.vm.trap, .int .i64 ti.vm.value.k, .int .i64 ti.vm.value.n, .string ti.vm.value.s, .int .i64 ti.vm.steps, .slice A4_10 ti.sites.length c4_10, .slice A4_11 ti.codes.length c4_11, .slice A4_12 ti.fails.length c4_12, .int .i64 ti.guards, .int .i64 ti.entered] 76 (0, 0))
    have x_P0 := hS.cell 8 rfl
    have x_b5 := hS.cell 0 rfl
    go_wp2_with fail
    refine (blackI _ _ _ _ _ _ _ _ _ _ _ _ ti _ (St.rowA hS 1 rfl) (St.rowA hS 2 rfl) (St.rowA hS 3 rfl) (St.rowA hS 4 rfl) (St.rowA hS 5 rfl) (St.rowA hS 6 rfl) hlen0 HX.out).mono ?_
    intro e w6 hn
    try clear x_P0
    try clear x_b5
    obtain ⟨A6, c6, F6, rfl, hS2⟩ := St.newRowF hS hn
    replace hS := hS2
    clear hn hS2
    try dsimp only [List.set_cons_succ, List.set_cons_zero, List.cons_append, List.nil_append, List.eraseIdx_cons_succ, List.eraseIdx_cons_zero] at hS
    have x_P0 := hS.cell 9 rfl
    have x_b5 := hS.cell 1 rfl
    as_aux_lemma =>
      go_wp2_with fail
      refine (eqSpecS_c _ _ _ _ X _ (St.rowA hS 0 rfl) (St.rowA hS 8 rfl)).mono ?_
      rintro e w7 ⟨rfl, hb⟩
      try clear x_P0
      try clear x_b5
      replace hS := hS.step hb
      clear hb
      have x_P0 := hS.cell 9 rfl
      have x_b5 := hS.cell 1 rfl
      go_wp2
      try clear x_P0
      try clear x_b5
      replace hS := hS.drew
      refine wp_region_held_drew (S := (fun w' => w'.cell? ⟨w4.heap.size, 0, none⟩ = some (.slice A4_0 ti.vm.frames.length c4_0) ∧ w'.cell? ⟨w4.heap.size, 1, none⟩ = some (.slice A4_1 ti.vm.heap.length c4_1) ∧ w'.cell? ⟨w4.heap.size, 2, none⟩ = some (.int .i64 ti.vm.made) ∧ w'.cell? ⟨w4.heap.size, 3, none⟩ = some (.slice A4_3 ti.vm.out.length c4_3) ∧ w'.cell? ⟨w4.heap.size, 4, none⟩ = some (.int .i64 ti.vm.status) ∧ w'.cell? ⟨w4.heap.size, 5, none⟩ = some (.int .i64 ti.vm.trap) ∧ w'.cell? ⟨w4.heap.size, 6, none⟩ = some (.int .i64 ti.vm.value.k) ∧ w'.cell? ⟨w4.heap.size, 7, none⟩ = some (.int .i64 ti.vm.value.n) ∧ w'.cell? ⟨w4.heap.size, 8, none⟩ = some (.string ti.vm.value.s) ∧ w'.cell? ⟨w4.heap.size, 9, none⟩ = some (.int .i64 ti.vm.steps) ∧ w'.cell? ⟨w4.heap.size, 10, none⟩ = some (.slice A4_10 ti.sites.length c4_10) ∧ w'.cell? ⟨w4.heap.size, 11, none⟩ = some (.slice A4_11 ti.codes.length c4_11) ∧ w'.cell? ⟨w4.heap.size, 12, none⟩ = some (.slice A4_12 ti.fails.length c4_12) ∧ w'.cell? ⟨w4.heap.size, 13, none⟩ = some (.int .i64 ti.guards) ∧ w'.cell? ⟨w4.heap.size, 14, none⟩ = some (.int .i64 ti.entered) ∧ w'.cell? ⟨w.heap.size, 0, none⟩ = some (.slice A0_0 ti.vm.frames.length c0_0) ∧ w'.cell? ⟨w.heap.size, 1, none⟩ = some (.slice A0_1 ti.vm.heap.length c0_1) ∧ w'.cell? ⟨w.heap.size, 2, none⟩ = some (.int .i64 ti.vm.made) ∧ w'.cell? ⟨w.heap.size, 3, none⟩ = some (.slice A0_3 ti.vm.out.length c0_3) ∧ w'.cell? ⟨w.heap.size, 4, none⟩ = some (.int .i64 ti.vm.status) ∧ w'.cell? ⟨w.heap.size, 5, none⟩ = some (.int .i64 ti.vm.trap) ∧ w'.cell? ⟨w.heap.size, 6, none⟩ = some (.int .i64 ti.vm.value.k) ∧ w'.cell? ⟨w.heap.size, 7, none⟩ = some (.int .i64 ti.vm.value.n) ∧ w'.cell? ⟨w.heap.size, 8, none⟩ = some (.string ti.vm.value.s) ∧ w'.cell? ⟨w.heap.size, 9, none⟩ = some (.int .i64 ti.vm.steps) ∧ w'.cell? ⟨w.heap.size, 10, none⟩ = some (.slice A0_10 ti.sites.length c0_10) ∧ w'.cell? ⟨w.heap.size, 11, none⟩ = some (.slice A0_11 ti.codes.length c0_11) ∧ w'.cell? ⟨w.heap.size, 12, none⟩ = some (.slice A0_12 ti.fails.length c0_12) ∧ w'.cell? ⟨w.heap.size, 13, none⟩ = some (.int .i64 ti.guards) ∧ w'.cell? ⟨w.heap.size, 14, none⟩ = some (.int .i64 ti.entered))) (by kernel_rfl) (⟨hS.cell 1 rfl 0, hS.cell 1 rfl 1, hS.cell 1 rfl 2, hS.cell 1 rfl 3, hS.cell 1 rfl 4, hS.cell 1 rfl 5, hS.cell 1 rfl 6, hS.cell 1 rfl 7, hS.cell 1 rfl 8, hS.cell 1 rfl 9, hS.cell 1 rfl 10, hS.cell 1 rfl 11, hS.cell 1 rfl 12, hS.cell 1 rfl 13, hS.cell 1 rfl 14, hS.cell 9 rfl 0, hS.cell 9 rfl 1, hS.cell 9 rfl 2, hS.cell 9 rfl 3, hS.cell 9 rfl 4, hS.cell 9 rfl 5, hS.cell 9 rfl 6, hS.cell 9 rfl 7, hS.cell 9 rfl 8, hS.cell 9 rfl 9, hS.cell 9 rfl 10, hS.cell 9 rfl 11, hS.cell 9 rfl 12, hS.cell 9 rfl 13, hS.cell 9 rfl 14⟩) (fun hHeld => ?_)
      first | (refine regW 0 (v := ?_) rfl (by rfl) (by kernel_rfl) (fun _ _ _ h => h) ?_ (by assumption) ?_; rotate_left; focus (intro w9 hSw; (try dsimp only at hSw); go_simp; (try with_reducible rfl); done)) | refine regU 0 rfl (by rfl) (by kernel_rfl) (fun _ _ _ h => h) (by assumption) ?_ | refine regN 0 rfl (by rfl) (by kernel_rfl) (by assumption) ?_
      try simp only [Act.put, List.setIfInBounds_toArray, List.set_cons_zero, List.set_cons_succ]
      first | (refine regW 1 (v := ?_) rfl (by rfl) (by kernel_rfl) (fun _ _ _ h => h) ?_ (by assumption) ?_; rotate_left; focus (intro w9 hSw; (try dsimp only at hSw); go_simp; (try with_reducible rfl); done)) | refine regU 1 rfl (by rfl) (by kernel_rfl) (fun _ _ _ h => h) (by assumption) ?_ | refine regN 1 rfl (by rfl) (by kernel_rfl) (by assumption) ?_
      try simp only [Act.put, List.setIfInBounds_toArray, List.set_cons_zero, List.set_cons_succ]
      refine regC 2 rfl (by kernel_rfl) (by rfl) (fun Kq hKq => ?_)
      go_simp
      (with_reducible refine (toTier_c _ _ _ _ _ _ _ _ _ _ _ _ ti _ (hr0_0.below hS.bel) (hr0_1.below hS.bel) (hr0_3.below hS.bel) (hr0_10.below hS.bel) (hr0_11.below hS.bel) (hr0_12.below hS.bel) hlen0).mono ?_)
      rintro e w8 ⟨v8_0, v8_1, v8_3, v8_10, v8_11, v8_12, F8_0, F8_1, F8_3, F8_10, F8_11, F8_12, rfl, hSx⟩; replace hS := hS.join hSx; clear hSx; obtain ⟨A8_0, c8_0, rfl, _, _⟩ := hS.row 0 rfl; obtain ⟨A8_1, c8_1, rfl, _, _⟩ := hS.row 1 rfl; obtain ⟨A8_3, c8_3, rfl, _, _⟩ := hS.row 2 rfl; obtain ⟨A8_10, c8_10, rfl, _, _⟩ := hS.row 3 rfl; obtain ⟨A8_11, c8_11, rfl, _, _⟩ := hS.row 4 rfl; obtain ⟨A8_12, c8_12, rfl, _, _⟩ := hS.row 5 rfl
      try go_wp2_with fail
      refine hKq.out _ _ (⟨hS.cell 7 rfl 0, hS.cell 7 rfl 1, hS.cell 7 rfl 2, hS.cell 7 rfl 3, hS.cell 7 rfl 4, hS.cell 7 rfl 5, hS.cell 7 rfl 6, hS.cell 7 rfl 7, hS.cell 7 rfl 8, hS.cell 7 rfl 9, hS.cell 7 rfl 10, hS.cell 7 rfl 11, hS.cell 7 rfl 12, hS.cell 7 rfl 13, hS.cell 7 rfl 14, hS.cell 15 rfl 0, hS.cell 15 rfl 1, hS.cell 15 rfl 2, hS.cell 15 rfl 3, hS.cell 15 rfl 4, hS.cell 15 rfl 5, hS.cell 15 rfl 6, hS.cell 15 rfl 7, hS.cell 15 rfl 8, hS.cell 15 rfl 9, hS.cell 15 rfl 10, hS.cell 15 rfl 11, hS.cell 15 rfl 12, hS.cell 15 rfl 13, hS.cell 15 rfl 14⟩) (fun hHeld => ?_)
      clear hKq Kq
      (try simp only [Act.put, List.setIfInBounds_toArray, List.set_cons_zero, List.set_cons_succ])
      refine regC 3 rfl (by kernel_rfl) (by rfl) (fun Kq hKq => ?_)
      go_simp
      (with_reducible refine (eqTier_c _ _ _ _ _ _ _ _ _ _ _ _ _ _ _ _ _ _ _ _ _ _ _ _ ti _ (St.rowA hS 8 rfl) (St.rowA hS 9 rfl) (St.rowA hS 10 rfl) (St.rowA hS 11 rfl) (St.rowA hS 12 rfl) (St.rowA hS 13 rfl) (St.rowA hS 0 rfl) (St.rowA hS 1 rfl) (St.rowA hS 2 rfl) (St.rowA hS 3 rfl) (St.rowA hS 4 rfl) (St.rowA hS 5 rfl)).mono ?_)
      rintro e w9 ⟨rfl, hb⟩; replace hS := hS.step hb; clear hb
      try go_wp2_with fail
      refine hKq.out _ _ (⟨hS.cell 7 rfl 0, hS.cell 7 rfl 1, hS.cell 7 rfl 2, hS.cell 7 rfl 3, hS.cell 7 rfl 4, hS.cell 7 rfl 5, hS.cell 7 rfl 6, hS.cell 7 rfl 7, hS.cell 7 rfl 8, hS.cell 7 rfl 9, hS.cell 7 rfl 10, hS.cell 7 rfl 11, hS.cell 7 rfl 12, hS.cell 7 rfl 13, hS.cell 7 rfl 14, hS.cell 15 rfl 0, hS.cell 15 rfl 1, hS.cell 15 rfl 2, hS.cell 15 rfl 3, hS.cell 15 rfl 4, hS.cell 15 rfl 5, hS.cell 15 rfl 6, hS.cell 15 rfl 7, hS.cell 15 rfl 8, hS.cell 15 rfl 9, hS.cell 15 rfl 10, hS.cell 15 rfl 11, hS.cell 15 rfl 12, hS.cell 15 rfl 13, hS.cell 15 rfl 14⟩) (fun hHeld => ?_)
      clear hKq Kq
      (try simp only [Act.put, List.setIfInBounds_toArray, List.set_cons_zero, List.set_cons_succ])
      first | (refine regW 4 (v := ?_) rfl (by rfl) (by kernel_rfl) (fun _ _ _ h => h) ?_ (by assumption) ?_; rotate_left; focus (intro w9 hSw; (try dsimp only at hSw); go_simp; (try with_reducible rfl); done)) | refine regU 4 rfl (by rfl) (by kernel_rfl) (fun _ _ _ h => h) (by assumption) ?_ | refine regN 4 rfl (by rfl) (by kernel_rfl) (by assumption) ?_
      try simp only [Act.put, List.setIfInBounds_toArray, List.set_cons_zero, List.set_cons_succ]
      refine wpAnyH_done (by kernel_rfl) ?_ _
      clear hHeld
      have x_P0 := hS.cell 15 rfl
      have x_b5 := hS.cell 7 rfl
      go_wp2_with fail
      refine (markTier_c ti _ _ _ _ _ _ F4_0 F4_1 F4_3 F4_10 F4_11 F4_12 1 w _ _ hS 8 rfl 9 rfl 10 rfl 11 rfl 12 rfl 13 rfl (by decide) (by decide) (by decide) (by decide) (by decide) (by decide) (by decide) (by decide) (by decide) (by decide) (by decide) (by decide) (by decide) (by decide) (by decide) (by omega) (by omega) hlen0).mono ?_
      rintro e w10 ⟨rfl, hS2⟩
      try clear x_P0
      try clear x_b5
      replace hS := hS2
      clear hS2
      try dsimp only [List.set_cons_succ, List.set_cons_zero, List.cons_append, List.nil_append, List.eraseIdx_cons_succ, List.eraseIdx_cons_zero] at hS
      have x_P0 := hS.cell 15 rfl
      have x_b5 := hS.cell 7 rfl
      as_aux_lemma =>
        go_wp2_with fail
        refine (eqSpecS_c _ _ _ _ X _ (St.rowA hS 6 rfl) (St.rowA hS 14 rfl)).mono ?_
        rintro e w11 ⟨rfl, hb⟩
        try clear x_P0
        try clear x_b5
        replace hS := hS.step hb
        clear hb
        have x_P0 := hS.cell 15 rfl
        have x_b5 := hS.cell 7 rfl
        go_wp2_with fail
        refine (markSpecS_c _ X 1 F6 _ (St.own_ hS 6 rfl) (hS.nodup 6 rfl) (by omega) (by omega) hsmall).mono ?_
        rintro e w12 ⟨rfl, hmo, hB⟩
        try clear x_P0
        try clear x_b5
        have hndx : F6.Nodup := by have h9 := hS.nodup 6 rfl; exact h9
        replace hS := hS.upd (r' := Res.own kSpec 142 _ (mkL mkSpec ctSpec 1 X) F6) 6 rfl hB hmo hndx (fun q hq => .inl hq)
        clear hmo hB hndx
        try dsimp only [List.set_cons_succ, List.set_cons_zero, List.cons_append, List.nil_append, List.eraseIdx_cons_succ, List.eraseIdx_cons_zero] at hS
        have x_P0 := hS.cell 15 rfl
        have x_b5 := hS.cell 7 rfl
        as_aux_lemma =>
          go_wp2_with fail
          refine (heldSpecS_c _ _ X 1 _ (St.rowN hS 6 rfl (mkL_len _ _ _ _)) (by omega) (by omega) hsmall).mono ?_
          rintro e w13 ⟨rfl, hb⟩
          try clear x_P0
          try clear x_b5
          replace hS := hS.step hb
          clear hb
          have x_P0 := hS.cell 15 rfl
          have x_b5 := hS.cell 7 rfl
          go_wp2_with fail
          refine (toTier_c _ _ _ _ _ _ _ _ _ _ _ _ ti _ (hr0_0.below hS.bel) (hr0_1.below hS.bel) (hr0_3.below hS.bel) (hr0_10.below hS.bel) (hr0_11.below hS.bel) (hr0_12.below hS.bel) hlen0).mono ?_
          rintro e w14 ⟨v14_0, v14_1, v14_3, v14_10, v14_11, v14_12, F14_0, F14_1, F14_3, F14_10, F14_11, F14_12, rfl, hSx⟩
          try clear x_P0
          try clear x_b5
          replace hS := hS.join hSx
          clear hSx
          obtain ⟨A14_0, c14_0, rfl, _, _⟩ := hS.row 0 rfl
          obtain ⟨A14_1, c14_1, rfl, _, _⟩ := hS.row 1 rfl
          obtain ⟨A14_3, c14_3, rfl, _, _⟩ := hS.row 2 rfl
          obtain ⟨A14_10, c14_10, rfl, _, _⟩ := hS.row 3 rfl
          obtain ⟨A14_11, c14_11, rfl, _, _⟩ := hS.row 4 rfl
          obtain ⟨A14_12, c14_12, rfl, _, _⟩ := hS.row 5 rfl
          try dsimp only [List.set_cons_succ, List.set_cons_zero, List.cons_append, List.nil_append, List.eraseIdx_cons_succ, List.eraseIdx_cons_zero] at hS
          have x_P0 := hS.cell 21 rfl
          have x_b5 := hS.cell 13 rfl
          go_wp2_with fail
          refine (blackI _ _ _ _ _ _ _ _ _ _ _ _ ti _ (St.rowA hS 0 rfl) (St.rowA hS 1 rfl) (St.rowA hS 2 rfl) (St.rowA hS 3 rfl) (St.rowA hS 4 rfl) (St.rowA hS 5 rfl) hlen0 HX.out).mono ?_
          intro e w15 hn
          try clear x_P0
          try clear x_b5
          obtain ⟨A15, c15, F15, rfl, hS2⟩ := St.newRowF hS hn
          replace hS := hS2
          clear hn hS2
          replace hS := (hS.front 1 rfl).drop
          replace hS := (hS.front 1 rfl).drop
          replace hS := (hS.front 1 rfl).drop
          replace hS := (hS.front 1 rfl).drop
          replace hS := (hS.front 1 rfl).drop
          replace hS := (hS.front 1 rfl).drop
          try dsimp only [List.set_cons_succ, List.set_cons_zero, List.cons_append, List.nil_append, List.eraseIdx_cons_succ, List.eraseIdx_cons_zero] at hS
          have x_P0 := hS.cell 16 rfl
          have x_b5 := hS.cell 8 rfl
          as_aux_lemma =>
            go_wp2_with fail
            refine (eqSpecS_c _ _ _ _ X _ (St.rowA hS 0 rfl) (St.rowA hS 15 rfl)).mono ?_
            rintro e w16 ⟨rfl, hb⟩
            try clear x_P0
            try clear x_b5
            replace hS := hS.step hb
            clear hb
            have x_P0 := hS.cell 16 rfl
            have x_b5 := hS.cell 8 rfl
            go_wp2_with fail
            refine (heldSpecS_c _ _ X 1 _ (St.rowN hS 7 rfl (mkL_len _ _ _ _)) (by omega) (by omega) hsmall).mono ?_
            rintro e w17 ⟨rfl, hb⟩
            try clear x_P0
            try clear x_b5
            replace hS := hS.step hb
            clear hb
            have x_P0 := hS.cell 16 rfl
            have x_b5 := hS.cell 8 rfl
            go_wp2
            go_ret
            exact ⟨rfl, hS.bel⟩
theorem lawBlackOf (ti_0 : List DFrame) (ti_1 : List DRec) (ti_2 : Int) (ti_3 : List ByteArray) (ti_4 : Int) (ti_5 : Int) (ti_6 : Int) (ti_7 : Int) (ti_8 : ByteArray) (ti_9 : Int) (ti_10 : List DSite) (ti_11 : List DFast) (ti_12 : List DFail) (ti_13 : Int) (ti_14 : Int) (w : World) {A0_0 : Option Addr} {c0_0 : Nat} {A0_1 : Option Addr} {c0_1 : Nat} {A0_3 : Option Addr} {c0_3 : Nat} {A0_10 : Option Addr} {c0_10 : Nat} {A0_11 : Option Addr} {c0_11 : Nat} {A0_12 : Option Addr} {c0_12 : Nat} (hr0_0 : kFrame.Row w A0_0 ti_0.length ti_0) (h_0_0 : ti_0.length ≤ c0_0) (hr0_1 : kRec.Row w A0_1 ti_1.length ti_1) (h_0_1 : ti_1.length ≤ c0_1) (hr0_3 : Knd.str.Row w A0_3 ti_3.length ti_3) (h_0_3 : ti_3.length ≤ c0_3) (hr0_10 : kSite.Row w A0_10 ti_10.length ti_10) (h_0_10 : ti_10.length ≤ c0_10) (hr0_11 : kFast.Row w A0_11 ti_11.length ti_11) (h_0_11 : ti_11.length ≤ c0_11) (hr0_12 : kFail.Row w A0_12 ti_12.length ti_12) (h_0_12 : ti_12.length ≤ c0_12) (b0_0 : ti_0.length ≤ maxLen ∧ ∀ y ∈ ti_0, VFrame y) (b0_1 : ti_1.length ≤ maxLen ∧ ∀ y ∈ ti_1, VRec y) (b0_2 : (Lit.int .i64 ti_2).wf = true) (b0_3 : ti_3.length ≤ maxLen ∧ ∀ y ∈ ti_3, y.size ≤ maxLen) (b0_4 : (Lit.int .i64 ti_4).wf = true) (b0_5 : (Lit.int .i64 ti_5).wf = true) (b0_6 : (Lit.int .i64 ti_6).wf = true) (b0_7 : (Lit.int .i64 ti_7).wf = true) (b0_8 : ti_8.size ≤ maxLen) (b0_9 : (Lit.int .i64 ti_9).wf = true) (b0_10 : ti_10.length ≤ maxLen ∧ ∀ y ∈ ti_10, VSite y) (b0_11 : ti_11.length ≤ maxLen ∧ ∀ y ∈ ti_11, VFast y) (b0_12 : ti_12.length ≤ maxLen ∧ ∀ y ∈ ti_12, VFail y) (b0_13 : (Lit.int .i64 ti_13).wf = true) (b0_14 : (Lit.int .i64 ti_14).wf = true) : Calls Try.prog 7 #[.agg #[.slice A0_0 ti_0.length c0_0, .slice A0_1 ti_1.length c0_1, .int .i64 ti_2, .slice A0_3 ti_3.length c0_3, .int .i64 ti_4, .int .i64 ti_5, .int .i64 ti_6, .int .i64 ti_7, .string ti_8, .int .i64 ti_9, .slice A0_10 ti_10.length c0_10, .slice A0_11 ti_11.length c0_11, .slice A0_12 ti_12.length c0_12, .int .i64 ti_13, .int .i64 ti_14]] w fun e w' => e = .returned (.bool true) ∧ Below w.heap.size w w' := lawxBlackOf (⟨⟨ti_0, ti_1, ti_2, ti_3, ti_4, ti_5, ⟨ti_6, ti_7, ti_8⟩, ti_9⟩, ti_10, ti_11, ti_12, ti_13, ti_14⟩ : DTier) w hr0_0 h_0_0 hr0_1 h_0_1 hr0_3 h_0_3 hr0_10 h_0_10 hr0_11 h_0_11 hr0_12 h_0_12 ⟨⟨b0_0, b0_1, b0_2, b0_3, b0_4, b0_5, ⟨b0_6, b0_7, b0_8⟩, b0_9⟩, b0_10, b0_11, b0_12, b0_13, b0_14⟩
end Go.Proofs.Yticlknijmnddeaa.Dat
