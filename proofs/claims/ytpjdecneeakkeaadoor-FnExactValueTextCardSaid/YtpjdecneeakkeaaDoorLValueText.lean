/- The walk of the law of ValueText. Written by a program (lawg.py). -/
import Derived.Test.YtpjdecneeakkeaaDoorK3
import Derived.Test.YtpjdecneeakkeaaDoorK4
import Derived.Test.YtpjdecneeakkeaaDoorSpecT
namespace Go.Proofs.YtpjdecneeakkeaaDoor.Dat
open Go Go.RowKit Go.Proofs.YtpjdecneeakkeaaDoor.Mem
set_option linter.unusedVariables false
set_option linter.unusedSimpArgs false
set_option maxHeartbeats 8000000 in
set_option maxRecDepth 100000 in
theorem lawxValueText (v : DValue) (heap : List DRec) (w : World)  {A1 : Option Addr} {c1 : Nat}  (hr1 : kRec.Row w A1 heap.length heap) (_ : heap.length ≤ c1) (hV0 : VValue v) (hV1 : heap.length ≤ maxLen ∧ ∀ y ∈ heap, VRec y) (htab : Tab w) : Calls Tryd.prog 5 #[.agg #[.int .i64 v.k, .int .i64 v.n, .string v.s], .slice A1 heap.length c1] w fun e w' => e = .returned (.bool true) ∧ Below w.heap.size w w' := by
  by_cases z0 : ((msValue v : Nat) : Int) ≤ (1048576 : Int)
  rotate_left
  · skip
    have Z0 := szValue_c   v (1048576)
    rw [lft_gt (by omega)] at Z0
    have hS := (St.start w).made (.cells #[.int .i64 v.k, .int .i64 v.n, .string v.s] 35 (0, 0))
    go_enter Tryd.func5, Tryd.ntmps5
    go_wp2_with fail
    refine (Z0 _  hV0 (by omega) (by omega)).mono ?_
    rintro e w1 ⟨rfl, hb⟩
    try clear x_P0
    replace hS := hS.step hb
    clear hb
    have x_P0 := hS.cell 0 rfl
    go_wp2
    go_ret
    exact ⟨rfl, hS.bel⟩
  by_cases z1 : ((sumOf msRec heap : Nat) : Int) ≤ (1048576 - ((msValue v : Nat) : Int) : Int)
  rotate_left
  · skip
    have Z0 := szValue_c   v (1048576)
    rw [lft_le z0] at Z0
    have g0 : 0 ≤ 1048576 - ((msValue v : Nat) : Int) := by omega
    have Z1 := szRecS_c A1 c1 heap (1048576 - ((msValue v : Nat) : Int))
    rw [lft_gt (by omega)] at Z1
    have hS := (St.start w).made (.cells #[.int .i64 v.k, .int .i64 v.n, .string v.s] 35 (0, 0))
    go_enter Tryd.func5, Tryd.ntmps5
    go_wp2_with fail
    refine (Z0 _  hV0 (by omega) (by omega)).mono ?_
    rintro e w1 ⟨rfl, hb⟩
    try clear x_P0
    replace hS := hS.step hb
    clear hb
    have x_P0 := hS.cell 0 rfl
    go_wp2_with fail
    refine (Z1 _ (hr1.below hS.bel) hV1.1 hV1.2 (by omega) (by omega)).mono ?_
    rintro e w2 ⟨rfl, hb⟩
    try clear x_P0
    replace hS := hS.step hb
    clear hb
    have x_P0 := hS.cell 0 rfl
    go_wp2
    go_ret
    exact ⟨rfl, hS.bel⟩
  have Z0 := szValue_c   v (1048576)
  rw [lft_le z0] at Z0
  have g0 : 0 ≤ 1048576 - ((msValue v : Nat) : Int) := by omega
  have Z1 := szRecS_c A1 c1 heap (1048576 - ((msValue v : Nat) : Int))
  rw [lft_le z1] at Z1
  have g1 : 0 ≤ 1048576 - ((msValue v : Nat) : Int) - ((sumOf msRec heap : Nat) : Int) := by omega
  have hlen0 := MValue_of (x := v) (by omega)
  have hlen1 : heap.length ≤ 1048576 ∧ ∀ y ∈ heap, MRec y := ⟨by unfold sumOf at *; omega, fun y hy => by have h9 := mem_sum msRec _ y hy; exact MRec_of (by unfold sumOf at *; omega)⟩
  have hI : I64 v.n ∧ v.s.size ≤ maxLen := ⟨wfI hV0.2.1, hV0.2.2⟩
  obtain ⟨X, hX⟩ : ∃ X : List UInt8, valueTextL v heap = X := ⟨_, rfl⟩
  have HX := Lib.hid hX
  clear hX
  have hS := (St.start w).made (.cells #[.int .i64 v.k, .int .i64 v.n, .string v.s] 35 (0, 0))
  go_enter Tryd.func5, Tryd.ntmps5
  go_wp2_with fail
  refine (Z0 _  hV0 (by omega) (by omega)).mono ?_
  rintro e w1 ⟨rfl, hb⟩
  try clear x_P0
  replace hS := hS.step hb
  clear hb
  have x_P0 := hS.cell 0 rfl
  go_wp2_with fail
  refine (Z1 _ (hr1.below hS.bel) hV1.1 hV1.2 (by omega) (by omega)).mono ?_
  rintro e w2 ⟨rfl, hb⟩
  try clear x_P0
  replace hS := hS.step hb
  clear hb
  have x_P0 := hS.cell 0 rfl
  go_wp2_with fail
  refine (toValue_c v _).mono ?_
  rintro e w3 ⟨rfl, hb⟩
  try clear x_P0
  replace hS := hS.step hb
  clear hb
  have x_P0 := hS.cell 0 rfl
  go_wp2_with fail
  refine (toRecS_c _ _ heap _ (hr1.below hS.bel) hlen1).mono ?_
  intro e w4 hn
  try clear x_P0
  obtain ⟨A4, c4, F4, rfl, hS2⟩ := St.newRowF hS hn
  replace hS := hS2
  clear hn hS2
  have x_P0 := hS.cell 1 rfl
  go_wp2_with fail
  refine (valueText3 _ _ v heap _ hI.1 hI.2 (St.rowA hS 0 rfl) hlen1 HX.out).mono ?_
  rintro e w5 ⟨rfl, hb⟩
  try clear x_P0
  replace hS := hS.step hb
  clear hb
  have x_P0 := hS.cell 1 rfl
  go_wp2_with fail
  refine (toRecS_c _ _ heap _ (hr1.below hS.bel) hlen1).mono ?_
  intro e w6 hn
  try clear x_P0
  obtain ⟨A6, c6, F6, rfl, hS2⟩ := St.newRowF hS hn
  replace hS := hS2
  clear hn hS2
  have x_P0 := hS.cell 2 rfl
  go_wp2_with fail
  refine (toValue_c v _).mono ?_
  rintro e w7 ⟨rfl, hb⟩
  try clear x_P0
  replace hS := hS.step hb
  clear hb
  have x_P0 := hS.cell 2 rfl
  go_wp2_with fail
  refine (valueTextI _ _ v heap _ hI.1 hI.2 (St.rowA hS 0 rfl) hlen1 (htab.below hS.bel) HX.out).mono ?_
  rintro e w8 ⟨rfl, hb⟩
  try clear x_P0
  replace hS := hS.step hb
  clear hb
  have x_P0 := hS.cell 2 rfl
  go_wp2_with fail
  refine (toRecS_c _ _ heap _ (hr1.below hS.bel) hlen1).mono ?_
  intro e w9 hn
  try clear x_P0
  obtain ⟨A9, c9, F9, rfl, hS2⟩ := St.newRowF hS hn
  replace hS := hS2
  clear hn hS2
  have x_P0 := hS.cell 3 rfl
  go_wp2_with fail
  refine (eqRecS_c _ _ _ _ heap _ (St.rowA hS 1 rfl) (St.rowA hS 0 rfl)).mono ?_
  rintro e w10 ⟨rfl, hb⟩
  try clear x_P0
  replace hS := hS.step hb
  clear hb
  have x_P0 := hS.cell 3 rfl
  go_wp2
  go_ret
  exact ⟨rfl, hS.bel⟩
theorem lawValueText (v_0 : Int) (v_1 : Int) (v_2 : ByteArray) (heap : List DRec) (w : World)  {A1 : Option Addr} {c1 : Nat}  (hr1 : kRec.Row w A1 heap.length heap) (h_heap : heap.length ≤ c1) (b0_0 : (Lit.int .i64 v_0).wf = true) (b0_1 : (Lit.int .i64 v_1).wf = true) (b0_2 : v_2.size ≤ maxLen) (hV1 : heap.length ≤ maxLen ∧ ∀ y ∈ heap, VRec y) (htab : Tab w) : Calls Tryd.prog 5 #[.agg #[.int .i64 v_0, .int .i64 v_1, .string v_2], .slice A1 heap.length c1] w fun e w' => e = .returned (.bool true) ∧ Below w.heap.size w w' := lawxValueText (⟨v_0, v_1, v_2⟩ : DValue) heap w  hr1 h_heap ⟨b0_0, b0_1, b0_2⟩ hV1 htab
end Go.Proofs.YtpjdecneeakkeaaDoor.Dat
