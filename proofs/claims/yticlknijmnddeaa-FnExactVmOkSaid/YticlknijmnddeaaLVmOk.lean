/- The walk of the law of VmOk. Written by a program (lawg.py). -/
import Derived.Test.YticlknijmnddeaaK3
import Derived.Test.YticlknijmnddeaaK4
import Derived.Test.YticlknijmnddeaaVmK
namespace Go.Proofs.Yticlknijmnddeaa.Dat
open Go Go.RowKit Go.Proofs.Yticlknijmnddeaa.Mem
set_option linter.unusedVariables false
set_option linter.unusedSimpArgs false
set_option maxHeartbeats 8000000 in
set_option maxRecDepth 100000 in
theorem lawxVmOk (t : List ByteArray) (l : List DFunc) (vm : DVm) (w : World) {A B : Option Addr} {c d : Nat} {A1_0 : Option Addr} {c1_0 : Nat} {A1_1 : Option Addr} {c1_1 : Nat} {A1_3 : Option Addr} {c1_3 : Nat} (ht0 : Knd.str.Row w A t.length t) (_ : t.length ≤ c) (hr0 : kFunc.Row w B l.length l) (_ : l.length ≤ d) (hr1_0 : kFrame.Row w A1_0 vm.frames.length vm.frames) (_ : vm.frames.length ≤ c1_0) (hr1_1 : kRec.Row w A1_1 vm.heap.length vm.heap) (_ : vm.heap.length ≤ c1_1) (hr1_3 : Knd.str.Row w A1_3 vm.out.length vm.out) (_ : vm.out.length ≤ c1_3) (hT : t.length ≤ maxLen ∧ ∀ y ∈ t, y.size ≤ maxLen) (hL : l.length ≤ maxLen ∧ ∀ y ∈ l, VFunc y) (hV1 : VVm vm) : Calls Try.prog 5 #[.agg #[.slice A t.length c, .slice B l.length d], .agg #[.slice A1_0 vm.frames.length c1_0, .slice A1_1 vm.heap.length c1_1, .int .i64 vm.made, .slice A1_3 vm.out.length c1_3, .int .i64 vm.status, .int .i64 vm.trap, .int .i64 vm.value.k, .int .i64 vm.value.n, .string vm.value.s, .int .i64 vm.steps]] w fun e w' => e = .returned (.bool true) ∧ Below w.heap.size w w' := by
  by_cases z0 : ((szMod t l : Nat) : Int) ≤ (1048576 : Int)
  rotate_left
  · skip
    have Z0 := szModule A B c d t l (1048576)
    rw [lft_gt (by omega)] at Z0
    have hS := (St.start w).made (.cells #[.slice A t.length c, .slice B l.length d] 37 (0, 0))
    replace hS := hS.madeAt (.cells #[.slice A1_0 vm.frames.length c1_0, .slice A1_1 vm.heap.length c1_1, .int .i64 vm.made, .slice A1_3 vm.out.length c1_3, .int .i64 vm.status, .int .i64 vm.trap, .int .i64 vm.value.k, .int .i64 vm.value.n, .string vm.value.s, .int .i64 vm.steps] 47 (0, 0)) (w.heap.size + 1) (by simp)
    go_enter Try.func5, Try.ntmps5
    go_wp2_with fail
    refine (Z0 _ (ht0.below hS.bel) (hr0.below hS.bel) hT.1 hL.1 hT.2 (fun x h => (hL.2 x h).2.2.1) (by omega) (by omega)).mono ?_
    rintro e w1 ⟨rfl, hb⟩
    try clear x_P0
    try clear x_P1
    replace hS := hS.step hb
    clear hb
    have x_P0 := hS.cell 1 rfl
    have x_P1 := hS.cell 0 rfl
    go_wp2
    go_ret
    exact ⟨rfl, hS.bel⟩
  by_cases z1 : ((msVm vm : Nat) : Int) ≤ (1048576 - ((szMod t l : Nat) : Int) : Int)
  rotate_left
  · skip
    have Z0 := szModule A B c d t l (1048576)
    rw [lft_le z0] at Z0
    have g0 : 0 ≤ 1048576 - ((szMod t l : Nat) : Int) := by omega
    have Z1 := szVm_c A1_0 A1_1 A1_3 c1_0 c1_1 c1_3 vm (1048576 - ((szMod t l : Nat) : Int))
    rw [lft_gt (by omega)] at Z1
    have hS := (St.start w).made (.cells #[.slice A t.length c, .slice B l.length d] 37 (0, 0))
    replace hS := hS.madeAt (.cells #[.slice A1_0 vm.frames.length c1_0, .slice A1_1 vm.heap.length c1_1, .int .i64 vm.made, .slice A1_3 vm.out.length c1_3, .int .i64 vm.status, .int .i64 vm.trap, .int .i64 vm.value.k, .int .i64 vm.value.n, .string vm.value.s, .int .i64 vm.steps] 47 (0, 0)) (w.heap.size + 1) (by simp)
    go_enter Try.func5, Try.ntmps5
    go_wp2_with fail
    refine (Z0 _ (ht0.below hS.bel) (hr0.below hS.bel) hT.1 hL.1 hT.2 (fun x h => (hL.2 x h).2.2.1) (by omega) (by omega)).mono ?_
    rintro e w1 ⟨rfl, hb⟩
    try clear x_P0
    try clear x_P1
    replace hS := hS.step hb
    clear hb
    have x_P0 := hS.cell 1 rfl
    have x_P1 := hS.cell 0 rfl
    go_wp2_with fail
    refine (Z1 _ (hr1_0.below hS.bel) (hr1_1.below hS.bel) (hr1_3.below hS.bel) hV1 (by omega) (by omega)).mono ?_
    rintro e w2 ⟨rfl, hb⟩
    try clear x_P0
    try clear x_P1
    replace hS := hS.step hb
    clear hb
    have x_P0 := hS.cell 1 rfl
    have x_P1 := hS.cell 0 rfl
    go_wp2
    go_ret
    exact ⟨rfl, hS.bel⟩
  have Z0 := szModule A B c d t l (1048576)
  rw [lft_le z0] at Z0
  have g0 : 0 ≤ 1048576 - ((szMod t l : Nat) : Int) := by omega
  have Z1 := szVm_c A1_0 A1_1 A1_3 c1_0 c1_1 c1_3 vm (1048576 - ((szMod t l : Nat) : Int))
  rw [lft_le z1] at Z1
  have g1 : 0 ≤ 1048576 - ((szMod t l : Nat) : Int) - ((msVm vm : Nat) : Int) := by omega
  obtain ⟨htm, hm, hv⟩ := szMod_small z0
  have hv2 : ∀ x ∈ l, x.code.length ≤ 1048576 ∧ -9223372036854775808 ≤ x.locals ∧ x.locals ≤ 9223372036854775807 := fun x h => ⟨hv x h, wf_lo (hL.2 x h).2.1, wf_hi (hL.2 x h).2.1⟩
  have hlen1 := MVm_of (x := vm) (by omega)
  have hS := (St.start w).made (.cells #[.slice A t.length c, .slice B l.length d] 37 (0, 0))
  replace hS := hS.madeAt (.cells #[.slice A1_0 vm.frames.length c1_0, .slice A1_1 vm.heap.length c1_1, .int .i64 vm.made, .slice A1_3 vm.out.length c1_3, .int .i64 vm.status, .int .i64 vm.trap, .int .i64 vm.value.k, .int .i64 vm.value.n, .string vm.value.s, .int .i64 vm.steps] 47 (0, 0)) (w.heap.size + 1) (by simp)
  go_enter Try.func5, Try.ntmps5
  go_wp2_with fail
  refine (Z0 _ (ht0.below hS.bel) (hr0.below hS.bel) hT.1 hL.1 hT.2 (fun x h => (hL.2 x h).2.2.1) (by omega) (by omega)).mono ?_
  rintro e w1 ⟨rfl, hb⟩
  try clear x_P0
  try clear x_P1
  replace hS := hS.step hb
  clear hb
  have x_P0 := hS.cell 1 rfl
  have x_P1 := hS.cell 0 rfl
  go_wp2_with fail
  refine (Z1 _ (hr1_0.below hS.bel) (hr1_1.below hS.bel) (hr1_3.below hS.bel) hV1 (by omega) (by omega)).mono ?_
  rintro e w2 ⟨rfl, hb⟩
  try clear x_P0
  try clear x_P1
  replace hS := hS.step hb
  clear hb
  have x_P0 := hS.cell 1 rfl
  have x_P1 := hS.cell 0 rfl
  go_wp2
  try clear x_P0
  try clear x_P1
  replace hS := hS.drew
  refine wp_region_held_drew (S := (fun w' => w'.cell? ⟨w.heap.size, 0, none⟩ = some (.slice A t.length c) ∧ w'.cell? ⟨w.heap.size, 1, none⟩ = some (.slice B l.length d) ∧ w'.cell? ⟨w.heap.size + 1, 0, none⟩ = some (.slice A1_0 vm.frames.length c1_0) ∧ w'.cell? ⟨w.heap.size + 1, 1, none⟩ = some (.slice A1_1 vm.heap.length c1_1) ∧ w'.cell? ⟨w.heap.size + 1, 2, none⟩ = some (.int .i64 vm.made) ∧ w'.cell? ⟨w.heap.size + 1, 3, none⟩ = some (.slice A1_3 vm.out.length c1_3) ∧ w'.cell? ⟨w.heap.size + 1, 4, none⟩ = some (.int .i64 vm.status) ∧ w'.cell? ⟨w.heap.size + 1, 5, none⟩ = some (.int .i64 vm.trap) ∧ w'.cell? ⟨w.heap.size + 1, 6, none⟩ = some (.int .i64 vm.value.k) ∧ w'.cell? ⟨w.heap.size + 1, 7, none⟩ = some (.int .i64 vm.value.n) ∧ w'.cell? ⟨w.heap.size + 1, 8, none⟩ = some (.string vm.value.s) ∧ w'.cell? ⟨w.heap.size + 1, 9, none⟩ = some (.int .i64 vm.steps))) (by kernel_rfl) (⟨hS.cell 1 rfl 0, hS.cell 1 rfl 1, hS.cell 0 rfl 0, hS.cell 0 rfl 1, hS.cell 0 rfl 2, hS.cell 0 rfl 3, hS.cell 0 rfl 4, hS.cell 0 rfl 5, hS.cell 0 rfl 6, hS.cell 0 rfl 7, hS.cell 0 rfl 8, hS.cell 0 rfl 9⟩) (fun hHeld => ?_)
  first | (refine regW 0 (v := ?_) rfl (by rfl) (by kernel_rfl) (fun _ _ _ h => h) ?_ (by assumption) ?_; rotate_left; focus (intro w9 hSw; (try dsimp only at hSw); go_simp; (try with_reducible rfl); done)) | refine regU 0 rfl (by rfl) (by kernel_rfl) (fun _ _ _ h => h) (by assumption) ?_ | refine regN 0 rfl (by rfl) (by kernel_rfl) (by assumption) ?_
  try simp only [Act.put, List.setIfInBounds_toArray, List.set_cons_zero, List.set_cons_succ]
  first | (refine regW 2 (v := ?_) rfl (by rfl) (by kernel_rfl) (fun _ _ _ h => h) ?_ (by assumption) ?_; rotate_left; focus (intro w9 hSw; (try dsimp only at hSw); go_simp; (try with_reducible rfl); done)) | refine regU 2 rfl (by rfl) (by kernel_rfl) (fun _ _ _ h => h) (by assumption) ?_ | refine regN 2 rfl (by rfl) (by kernel_rfl) (by assumption) ?_
  try simp only [Act.put, List.setIfInBounds_toArray, List.set_cons_zero, List.set_cons_succ]
  refine regC 1 rfl (by kernel_rfl) (by rfl) (fun Kq hKq => ?_)
  go_simp
  (with_reducible refine (toModule _ _ _ _ t l _ (ht0.below hS.bel) (hr0.below hS.bel) htm hm hv).mono ?_)
  rintro e w3 ⟨v, u, F3, G3, rfl, hot, hor, hnd, hF, hb⟩; replace hS := St.newMod hS hot hor hnd hF hb; clear hot hor hnd hF hb; obtain ⟨A3, c3, B3, d3, rfl, rfl, _, _⟩ := St.modR hS 0 rfl
  try go_wp2_with fail
  refine hKq.out _ _ (⟨hS.cell 2 rfl 0, hS.cell 2 rfl 1, hS.cell 1 rfl 0, hS.cell 1 rfl 1, hS.cell 1 rfl 2, hS.cell 1 rfl 3, hS.cell 1 rfl 4, hS.cell 1 rfl 5, hS.cell 1 rfl 6, hS.cell 1 rfl 7, hS.cell 1 rfl 8, hS.cell 1 rfl 9⟩) (fun hHeld => ?_)
  clear hKq Kq
  (try simp only [Act.put, List.setIfInBounds_toArray, List.set_cons_zero, List.set_cons_succ])
  refine regC 3 rfl (by kernel_rfl) (by rfl) (fun Kq hKq => ?_)
  go_simp
  (with_reducible refine (toVm_c _ _ _ _ _ _ vm _ (hr1_0.below hS.bel) (hr1_1.below hS.bel) (hr1_3.below hS.bel) hlen1).mono ?_)
  rintro e w4 ⟨v4_0, v4_1, v4_3, F4_0, F4_1, F4_3, rfl, hSx⟩; replace hS := hS.join hSx; clear hSx; obtain ⟨A4_0, c4_0, rfl, _, _⟩ := hS.row 0 rfl; obtain ⟨A4_1, c4_1, rfl, _, _⟩ := hS.row 1 rfl; obtain ⟨A4_3, c4_3, rfl, _, _⟩ := hS.row 2 rfl
  try go_wp2_with fail
  refine hKq.out _ _ (⟨hS.cell 5 rfl 0, hS.cell 5 rfl 1, hS.cell 4 rfl 0, hS.cell 4 rfl 1, hS.cell 4 rfl 2, hS.cell 4 rfl 3, hS.cell 4 rfl 4, hS.cell 4 rfl 5, hS.cell 4 rfl 6, hS.cell 4 rfl 7, hS.cell 4 rfl 8, hS.cell 4 rfl 9⟩) (fun hHeld => ?_)
  clear hKq Kq
  (try simp only [Act.put, List.setIfInBounds_toArray, List.set_cons_zero, List.set_cons_succ])
  refine regC 4 rfl (by kernel_rfl) (by rfl) (fun Kq hKq => ?_)
  go_simp
  (with_reducible refine (vmOk3 _ _ _ _ _ _ _ _ _ _ t l vm _ ⟨(St.modA hS 3 rfl).1, (St.modA hS 3 rfl).2, htm, hm, hT.2, hv2⟩ (St.rowA hS 0 rfl) (St.rowA hS 1 rfl) (St.rowA hS 2 rfl) hlen1 rfl).mono ?_)
  rintro e w5 ⟨rfl, hb⟩; replace hS := hS.step hb; clear hb
  try go_wp2_with fail
  refine hKq.out _ _ (⟨hS.cell 5 rfl 0, hS.cell 5 rfl 1, hS.cell 4 rfl 0, hS.cell 4 rfl 1, hS.cell 4 rfl 2, hS.cell 4 rfl 3, hS.cell 4 rfl 4, hS.cell 4 rfl 5, hS.cell 4 rfl 6, hS.cell 4 rfl 7, hS.cell 4 rfl 8, hS.cell 4 rfl 9⟩) (fun hHeld => ?_)
  clear hKq Kq
  (try simp only [Act.put, List.setIfInBounds_toArray, List.set_cons_zero, List.set_cons_succ])
  first | (refine regW 5 (v := ?_) rfl (by rfl) (by kernel_rfl) (fun _ _ _ h => h) ?_ (by assumption) ?_; rotate_left; focus (intro w9 hSw; (try dsimp only at hSw); go_simp; (try with_reducible rfl); done)) | refine regU 5 rfl (by rfl) (by kernel_rfl) (fun _ _ _ h => h) (by assumption) ?_ | refine regN 5 rfl (by rfl) (by kernel_rfl) (by assumption) ?_
  try simp only [Act.put, List.setIfInBounds_toArray, List.set_cons_zero, List.set_cons_succ]
  refine wpAnyH_done (by kernel_rfl) ?_ _
  clear hHeld
  have x_P0 := hS.cell 5 rfl
  have x_P1 := hS.cell 4 rfl
  go_wp2_with fail
  refine (toModule _ _ _ _ t l _ (ht0.below hS.bel) (hr0.below hS.bel) htm hm hv).mono ?_
  rintro e w6 ⟨v, u, F6, G6, rfl, hot, hor, hnd, hF, hb⟩
  try clear x_P0
  try clear x_P1
  replace hS := St.newMod hS hot hor hnd hF hb
  clear hot hor hnd hF hb
  obtain ⟨A6, c6, B6, d6, rfl, rfl, _, _⟩ := St.modR hS 0 rfl
  have x_P0 := hS.cell 6 rfl
  have x_P1 := hS.cell 5 rfl
  try clear x_P0
  try clear x_P1
  try clear x_b7
  replace hS := hS.made (.cells #[.slice A6 t.length c6, .slice B6 l.length d6] 26 (0, 0))
  have x_P0 := hS.cell 7 rfl
  have x_P1 := hS.cell 6 rfl
  have x_b7 := hS.cell 0 rfl
  go_wp2_with fail
  refine (toVm_c _ _ _ _ _ _ vm _ (hr1_0.below hS.bel) (hr1_1.below hS.bel) (hr1_3.below hS.bel) hlen1).mono ?_
  rintro e w8 ⟨v8_0, v8_1, v8_3, F8_0, F8_1, F8_3, rfl, hSx⟩
  try clear x_P0
  try clear x_P1
  try clear x_b7
  replace hS := hS.join hSx
  clear hSx
  obtain ⟨A8_0, c8_0, rfl, _, _⟩ := hS.row 0 rfl
  obtain ⟨A8_1, c8_1, rfl, _, _⟩ := hS.row 1 rfl
  obtain ⟨A8_3, c8_3, rfl, _, _⟩ := hS.row 2 rfl
  have x_P0 := hS.cell 10 rfl
  have x_P1 := hS.cell 9 rfl
  have x_b7 := hS.cell 3 rfl
  try clear x_P0
  try clear x_P1
  try clear x_b7
  try clear x_b9
  replace hS := hS.made (.cells #[.slice A8_0 vm.frames.length c8_0, .slice A8_1 vm.heap.length c8_1, .int .i64 vm.made, .slice A8_3 vm.out.length c8_3, .int .i64 vm.status, .int .i64 vm.trap, .int .i64 vm.value.k, .int .i64 vm.value.n, .string vm.value.s, .int .i64 vm.steps] 54 (0, 0))
  have x_P0 := hS.cell 11 rfl
  have x_P1 := hS.cell 10 rfl
  have x_b7 := hS.cell 4 rfl
  have x_b9 := hS.cell 0 rfl
  go_wp2_with fail
  refine (vmOkI _ _ _ _ _ _ _ _ _ _ t l vm _ ⟨(St.modA hS 5 rfl).1, (St.modA hS 5 rfl).2, htm, hm, hT.2, hv2⟩ (St.rowA hS 1 rfl) (St.rowA hS 2 rfl) (St.rowA hS 3 rfl) hlen1 rfl).mono ?_
  rintro e w10 ⟨rfl, hb⟩
  try clear x_P0
  try clear x_P1
  try clear x_b7
  try clear x_b9
  replace hS := hS.step hb
  clear hb
  have x_P0 := hS.cell 11 rfl
  have x_P1 := hS.cell 10 rfl
  have x_b7 := hS.cell 4 rfl
  have x_b9 := hS.cell 0 rfl
  go_wp2
  try clear x_P0
  try clear x_P1
  try clear x_b7
  try clear x_b9
  replace hS := hS.drew
  refine wp_region_held_drew (S := (fun w' => w'.cell? ⟨w6.heap.size, 0, none⟩ = some (.slice A6 t.length c6) ∧ w'.cell? ⟨w6.heap.size, 1, none⟩ = some (.slice B6 l.length d6) ∧ w'.cell? ⟨w.heap.size, 0, none⟩ = some (.slice A t.length c) ∧ w'.cell? ⟨w.heap.size, 1, none⟩ = some (.slice B l.length d))) (by kernel_rfl) (⟨hS.cell 4 rfl 0, hS.cell 4 rfl 1, hS.cell 11 rfl 0, hS.cell 11 rfl 1⟩) (fun hHeld => ?_)
  first | (refine regW 0 (v := ?_) rfl (by rfl) (by kernel_rfl) (fun _ _ _ h => h) ?_ (by assumption) ?_; rotate_left; focus (intro w9 hSw; (try dsimp only at hSw); go_simp; (try with_reducible rfl); done)) | refine regU 0 rfl (by rfl) (by kernel_rfl) (fun _ _ _ h => h) (by assumption) ?_ | refine regN 0 rfl (by rfl) (by kernel_rfl) (by assumption) ?_
  try simp only [Act.put, List.setIfInBounds_toArray, List.set_cons_zero, List.set_cons_succ]
  first | (refine regW 1 (v := ?_) rfl (by rfl) (by kernel_rfl) (fun _ _ _ h => h) ?_ (by assumption) ?_; rotate_left; focus (intro w9 hSw; (try dsimp only at hSw); go_simp; (try with_reducible rfl); done)) | refine regU 1 rfl (by rfl) (by kernel_rfl) (fun _ _ _ h => h) (by assumption) ?_ | refine regN 1 rfl (by rfl) (by kernel_rfl) (by assumption) ?_
  try simp only [Act.put, List.setIfInBounds_toArray, List.set_cons_zero, List.set_cons_succ]
  refine regC 2 rfl (by kernel_rfl) (by rfl) (fun Kq hKq => ?_)
  go_simp
  (with_reducible refine (toModule _ _ _ _ t l _ (ht0.below hS.bel) (hr0.below hS.bel) htm hm hv).mono ?_)
  rintro e w11 ⟨v, u, F11, G11, rfl, hot, hor, hnd, hF, hb⟩; replace hS := St.newMod hS hot hor hnd hF hb; clear hot hor hnd hF hb; obtain ⟨A11, c11, B11, d11, rfl, rfl, _, _⟩ := St.modR hS 0 rfl
  try go_wp2_with fail
  refine hKq.out _ _ (⟨hS.cell 5 rfl 0, hS.cell 5 rfl 1, hS.cell 12 rfl 0, hS.cell 12 rfl 1⟩) (fun hHeld => ?_)
  clear hKq Kq
  (try simp only [Act.put, List.setIfInBounds_toArray, List.set_cons_zero, List.set_cons_succ])
  refine regC 3 rfl (by kernel_rfl) (by rfl) (fun Kq hKq => ?_)
  go_simp
  (with_reducible refine (eqModule _ _ _ _ _ _ _ _ t l _ (St.modA hS 6 rfl).1 (St.modA hS 6 rfl).2 (St.modA hS 0 rfl).1 (St.modA hS 0 rfl).2).mono ?_)
  rintro e w12 ⟨rfl, hb⟩; replace hS := hS.step hb; clear hb
  try go_wp2_with fail
  refine hKq.out _ _ (⟨hS.cell 5 rfl 0, hS.cell 5 rfl 1, hS.cell 12 rfl 0, hS.cell 12 rfl 1⟩) (fun hHeld => ?_)
  clear hKq Kq
  (try simp only [Act.put, List.setIfInBounds_toArray, List.set_cons_zero, List.set_cons_succ])
  first | (refine regW 4 (v := ?_) rfl (by rfl) (by kernel_rfl) (fun _ _ _ h => h) ?_ (by assumption) ?_; rotate_left; focus (intro w9 hSw; (try dsimp only at hSw); go_simp; (try with_reducible rfl); done)) | refine regU 4 rfl (by rfl) (by kernel_rfl) (fun _ _ _ h => h) (by assumption) ?_ | refine regN 4 rfl (by rfl) (by kernel_rfl) (by assumption) ?_
  try simp only [Act.put, List.setIfInBounds_toArray, List.set_cons_zero, List.set_cons_succ]
  refine wpAnyH_done (by kernel_rfl) ?_ _
  clear hHeld
  have x_P0 := hS.cell 12 rfl
  have x_P1 := hS.cell 11 rfl
  have x_b7 := hS.cell 5 rfl
  have x_b9 := hS.cell 1 rfl
  go_wp2
  try clear x_P0
  try clear x_P1
  try clear x_b7
  try clear x_b9
  replace hS := hS.drew
  refine wp_region_held_drew (S := (fun w' => w'.cell? ⟨w8.heap.size, 0, none⟩ = some (.slice A8_0 vm.frames.length c8_0) ∧ w'.cell? ⟨w8.heap.size, 1, none⟩ = some (.slice A8_1 vm.heap.length c8_1) ∧ w'.cell? ⟨w8.heap.size, 2, none⟩ = some (.int .i64 vm.made) ∧ w'.cell? ⟨w8.heap.size, 3, none⟩ = some (.slice A8_3 vm.out.length c8_3) ∧ w'.cell? ⟨w8.heap.size, 4, none⟩ = some (.int .i64 vm.status) ∧ w'.cell? ⟨w8.heap.size, 5, none⟩ = some (.int .i64 vm.trap) ∧ w'.cell? ⟨w8.heap.size, 6, none⟩ = some (.int .i64 vm.value.k) ∧ w'.cell? ⟨w8.heap.size, 7, none⟩ = some (.int .i64 vm.value.n) ∧ w'.cell? ⟨w8.heap.size, 8, none⟩ = some (.string vm.value.s) ∧ w'.cell? ⟨w8.heap.size, 9, none⟩ = some (.int .i64 vm.steps) ∧ w'.cell? ⟨w.heap.size + 1, 0, none⟩ = some (.slice A1_0 vm.frames.length c1_0) ∧ w'.cell? ⟨w.heap.size + 1, 1, none⟩ = some (.slice A1_1 vm.heap.length c1_1) ∧ w'.cell? ⟨w.heap.size + 1, 2, none⟩ = some (.int .i64 vm.made) ∧ w'.cell? ⟨w.heap.size + 1, 3, none⟩ = some (.slice A1_3 vm.out.length c1_3) ∧ w'.cell? ⟨w.heap.size + 1, 4, none⟩ = some (.int .i64 vm.status) ∧ w'.cell? ⟨w.heap.size + 1, 5, none⟩ = some (.int .i64 vm.trap) ∧ w'.cell? ⟨w.heap.size + 1, 6, none⟩ = some (.int .i64 vm.value.k) ∧ w'.cell? ⟨w.heap.size + 1, 7, none⟩ = some (.int .i64 vm.value.n) ∧ w'.cell? ⟨w.heap.size + 1, 8, none⟩ = some (.string vm.value.s) ∧ w'.cell? ⟨w.heap.size + 1, 9, none⟩ = some (.int .i64 vm.steps))) (by kernel_rfl) (⟨hS.cell 1 rfl 0, hS.cell 1 rfl 1, hS.cell 1 rfl 2, hS.cell 1 rfl 3, hS.cell 1 rfl 4, hS.cell 1 rfl 5, hS.cell 1 rfl 6, hS.cell 1 rfl 7, hS.cell 1 rfl 8, hS.cell 1 rfl 9, hS.cell 11 rfl 0, hS.cell 11 rfl 1, hS.cell 11 rfl 2, hS.cell 11 rfl 3, hS.cell 11 rfl 4, hS.cell 11 rfl 5, hS.cell 11 rfl 6, hS.cell 11 rfl 7, hS.cell 11 rfl 8, hS.cell 11 rfl 9⟩) (fun hHeld => ?_)
  first | (refine regW 0 (v := ?_) rfl (by rfl) (by kernel_rfl) (fun _ _ _ h => h) ?_ (by assumption) ?_; rotate_left; focus (intro w9 hSw; (try dsimp only at hSw); go_simp; (try with_reducible rfl); done)) | refine regU 0 rfl (by rfl) (by kernel_rfl) (fun _ _ _ h => h) (by assumption) ?_ | refine regN 0 rfl (by rfl) (by kernel_rfl) (by assumption) ?_
  try simp only [Act.put, List.setIfInBounds_toArray, List.set_cons_zero, List.set_cons_succ]
  first | (refine regW 1 (v := ?_) rfl (by rfl) (by kernel_rfl) (fun _ _ _ h => h) ?_ (by assumption) ?_; rotate_left; focus (intro w9 hSw; (try dsimp only at hSw); go_simp; (try with_reducible rfl); done)) | refine regU 1 rfl (by rfl) (by kernel_rfl) (fun _ _ _ h => h) (by assumption) ?_ | refine regN 1 rfl (by rfl) (by kernel_rfl) (by assumption) ?_
  try simp only [Act.put, List.setIfInBounds_toArray, List.set_cons_zero, List.set_cons_succ]
  refine regC 2 rfl (by kernel_rfl) (by rfl) (fun Kq hKq => ?_)
  go_simp
  (with_reducible refine (toVm_c _ _ _ _ _ _ vm _ (hr1_0.below hS.bel) (hr1_1.below hS.bel) (hr1_3.below hS.bel) hlen1).mono ?_)
  rintro e w13 ⟨v13_0, v13_1, v13_3, F13_0, F13_1, F13_3, rfl, hSx⟩; replace hS := hS.join hSx; clear hSx; obtain ⟨A13_0, c13_0, rfl, _, _⟩ := hS.row 0 rfl; obtain ⟨A13_1, c13_1, rfl, _, _⟩ := hS.row 1 rfl; obtain ⟨A13_3, c13_3, rfl, _, _⟩ := hS.row 2 rfl
  try go_wp2_with fail
  refine hKq.out _ _ (⟨hS.cell 4 rfl 0, hS.cell 4 rfl 1, hS.cell 4 rfl 2, hS.cell 4 rfl 3, hS.cell 4 rfl 4, hS.cell 4 rfl 5, hS.cell 4 rfl 6, hS.cell 4 rfl 7, hS.cell 4 rfl 8, hS.cell 4 rfl 9, hS.cell 14 rfl 0, hS.cell 14 rfl 1, hS.cell 14 rfl 2, hS.cell 14 rfl 3, hS.cell 14 rfl 4, hS.cell 14 rfl 5, hS.cell 14 rfl 6, hS.cell 14 rfl 7, hS.cell 14 rfl 8, hS.cell 14 rfl 9⟩) (fun hHeld => ?_)
  clear hKq Kq
  (try simp only [Act.put, List.setIfInBounds_toArray, List.set_cons_zero, List.set_cons_succ])
  refine regC 3 rfl (by kernel_rfl) (by rfl) (fun Kq hKq => ?_)
  go_simp
  (with_reducible refine (eqVm_c _ _ _ _ _ _ _ _ _ _ _ _ vm _ (St.rowA hS 5 rfl) (St.rowA hS 6 rfl) (St.rowA hS 7 rfl) (St.rowA hS 0 rfl) (St.rowA hS 1 rfl) (St.rowA hS 2 rfl)).mono ?_)
  rintro e w14 ⟨rfl, hb⟩; replace hS := hS.step hb; clear hb
  try go_wp2_with fail
  refine hKq.out _ _ (⟨hS.cell 4 rfl 0, hS.cell 4 rfl 1, hS.cell 4 rfl 2, hS.cell 4 rfl 3, hS.cell 4 rfl 4, hS.cell 4 rfl 5, hS.cell 4 rfl 6, hS.cell 4 rfl 7, hS.cell 4 rfl 8, hS.cell 4 rfl 9, hS.cell 14 rfl 0, hS.cell 14 rfl 1, hS.cell 14 rfl 2, hS.cell 14 rfl 3, hS.cell 14 rfl 4, hS.cell 14 rfl 5, hS.cell 14 rfl 6, hS.cell 14 rfl 7, hS.cell 14 rfl 8, hS.cell 14 rfl 9⟩) (fun hHeld => ?_)
  clear hKq Kq
  (try simp only [Act.put, List.setIfInBounds_toArray, List.set_cons_zero, List.set_cons_succ])
  first | (refine regW 4 (v := ?_) rfl (by rfl) (by kernel_rfl) (fun _ _ _ h => h) ?_ (by assumption) ?_; rotate_left; focus (intro w9 hSw; (try dsimp only at hSw); go_simp; (try with_reducible rfl); done)) | refine regU 4 rfl (by rfl) (by kernel_rfl) (fun _ _ _ h => h) (by assumption) ?_ | refine regN 4 rfl (by rfl) (by kernel_rfl) (by assumption) ?_
  try simp only [Act.put, List.setIfInBounds_toArray, List.set_cons_zero, List.set_cons_succ]
  refine wpAnyH_done (by kernel_rfl) ?_ _
  clear hHeld
  have x_P0 := hS.cell 15 rfl
  have x_P1 := hS.cell 14 rfl
  have x_b7 := hS.cell 8 rfl
  have x_b9 := hS.cell 4 rfl
  go_wp2
  go_ret
  exact ⟨rfl, hS.bel⟩
theorem lawVmOk (t : List ByteArray) (l : List DFunc) (vm_0 : List DFrame) (vm_1 : List DRec) (vm_2 : Int) (vm_3 : List ByteArray) (vm_4 : Int) (vm_5 : Int) (vm_6 : Int) (vm_7 : Int) (vm_8 : ByteArray) (vm_9 : Int) (w : World) {A B : Option Addr} {c d : Nat} {A1_0 : Option Addr} {c1_0 : Nat} {A1_1 : Option Addr} {c1_1 : Nat} {A1_3 : Option Addr} {c1_3 : Nat} (ht0 : Knd.str.Row w A t.length t) (h_t : t.length ≤ c) (hr0 : kFunc.Row w B l.length l) (h_l : l.length ≤ d) (hr1_0 : kFrame.Row w A1_0 vm_0.length vm_0) (h_1_0 : vm_0.length ≤ c1_0) (hr1_1 : kRec.Row w A1_1 vm_1.length vm_1) (h_1_1 : vm_1.length ≤ c1_1) (hr1_3 : Knd.str.Row w A1_3 vm_3.length vm_3) (h_1_3 : vm_3.length ≤ c1_3) (hT : t.length ≤ maxLen ∧ ∀ y ∈ t, y.size ≤ maxLen) (hL : l.length ≤ maxLen ∧ ∀ y ∈ l, VFunc y) (b1_0 : vm_0.length ≤ maxLen ∧ ∀ y ∈ vm_0, VFrame y) (b1_1 : vm_1.length ≤ maxLen ∧ ∀ y ∈ vm_1, VRec y) (b1_2 : (Lit.int .i64 vm_2).wf = true) (b1_3 : vm_3.length ≤ maxLen ∧ ∀ y ∈ vm_3, y.size ≤ maxLen) (b1_4 : (Lit.int .i64 vm_4).wf = true) (b1_5 : (Lit.int .i64 vm_5).wf = true) (b1_6 : (Lit.int .i64 vm_6).wf = true) (b1_7 : (Lit.int .i64 vm_7).wf = true) (b1_8 : vm_8.size ≤ maxLen) (b1_9 : (Lit.int .i64 vm_9).wf = true) : Calls Try.prog 5 #[.agg #[.slice A t.length c, .slice B l.length d], .agg #[.slice A1_0 vm_0.length c1_0, .slice A1_1 vm_1.length c1_1, .int .i64 vm_2, .slice A1_3 vm_3.length c1_3, .int .i64 vm_4, .int .i64 vm_5, .int .i64 vm_6, .int .i64 vm_7, .string vm_8, .int .i64 vm_9]] w fun e w' => e = .returned (.bool true) ∧ Below w.heap.size w w' := lawxVmOk t l (⟨vm_0, vm_1, vm_2, vm_3, vm_4, vm_5, ⟨vm_6, vm_7, vm_8⟩, vm_9⟩ : DVm) w ht0 h_t hr0 h_l hr1_0 h_1_0 hr1_1 h_1_1 hr1_3 h_1_3 hT hL ⟨b1_0, b1_1, b1_2, b1_3, b1_4, b1_5, ⟨b1_6, b1_7, b1_8⟩, b1_9⟩
end Go.Proofs.Yticlknijmnddeaa.Dat
