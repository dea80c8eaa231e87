/- The walk of the law of NewTier. Written by a program (lawg.py). -/
import Derived.Test.YticlknijmnddeaaGreatK3
import Derived.Test.YticlknijmnddeaaGreatK4
import Derived.Test.YticlknijmnddeaaGreatNewT
import Derived.Test.YticlknijmnddeaaGreatGTier
import Derived.Test.YticlknijmnddeaaGreatGM
namespace Go.Proofs.YticlknijmnddeaaGreat.Dat
open Go Go.RowKit Go.Proofs.YticlknijmnddeaaGreat.Mem
set_option linter.unusedVariables false
set_option linter.unusedSimpArgs false
set_option maxHeartbeats 8000000 in
set_option maxRecDepth 100000 in
theorem lawxNewTier (t : List ByteArray) (l : List DFunc) (args : List DValue) (w : World) {A B : Option Addr} {c d : Nat} {A1 : Option Addr} {c1 : Nat} (ht0 : Knd.str.Row w A t.length t) (_ : t.length ≤ c) (hr0 : kFunc.Row w B l.length l) (_ : l.length ≤ d) (hr1 : kValue.Row w A1 args.length args) (_ : args.length ≤ c1) (hT : t.length ≤ maxLen ∧ ∀ y ∈ t, y.size ≤ maxLen) (hL : l.length ≤ maxLen ∧ ∀ y ∈ l, VFunc y) (hV1 : args.length ≤ maxLen ∧ ∀ y ∈ args, VValue y) : Calls Tryz.prog 9 #[.agg #[.slice A t.length c, .slice B l.length d], .slice A1 args.length c1] w fun e w' => e = .returned (.bool true) ∧ Below w.heap.size w w' := by
  by_cases z0 : ((szMod t l : Nat) : Int) ≤ (1048576 : Int)
  rotate_left
  · skip
    have Z0 := szModule A B c d t l (1048576)
    rw [lft_gt (by omega)] at Z0
    have hS := (St.start w).made (.cells #[.slice A t.length c, .slice B l.length d] 25 (0, 0))
    go_enter Tryz.func9, Tryz.ntmps9
    go_wp2_with fail
    refine (Z0 _ (ht0.below hS.bel) (hr0.below hS.bel) hT.1 hL.1 hT.2 (fun x h => (hL.2 x h).2.2.1) (by omega) (by omega)).mono ?_
    rintro e w1 ⟨rfl, hb⟩
    try clear x_P0
    replace hS := hS.step hb
    clear hb
    have x_P0 := hS.cell 0 rfl
    go_wp2
    go_ret
    exact ⟨rfl, hS.bel⟩
  by_cases z1 : ((sumOf msValue args : Nat) : Int) ≤ (1048576 - ((szMod t l : Nat) : Int) : Int)
  rotate_left
  · skip
    have Z0 := szModule A B c d t l (1048576)
    rw [lft_le z0] at Z0
    have g0 : 0 ≤ 1048576 - ((szMod t l : Nat) : Int) := by omega
    have Z1 := szValueS_c A1 c1 args (1048576 - ((szMod t l : Nat) : Int))
    rw [lft_gt (by omega)] at Z1
    have hS := (St.start w).made (.cells #[.slice A t.length c, .slice B l.length d] 25 (0, 0))
    go_enter Tryz.func9, Tryz.ntmps9
    go_wp2_with fail
    refine (Z0 _ (ht0.below hS.bel) (hr0.below hS.bel) hT.1 hL.1 hT.2 (fun x h => (hL.2 x h).2.2.1) (by omega) (by omega)).mono ?_
    rintro e w1 ⟨rfl, hb⟩
    try clear x_P0
    replace hS := hS.step hb
    clear hb
    have x_P0 := hS.cell 0 rfl
    go_wp2_with fail
    refine (Z1 _ (hr1.below hS.bel) hV1.1 hV1.2 (by omega) (by omega)).mono ?_
    rintro e w2 ⟨rfl, hb⟩
    try clear x_P0
    replace hS := hS.step hb
    clear hb
    have x_P0 := hS.cell 0 rfl
    go_wp2
    go_ret
    exact ⟨rfl, hS.bel⟩
  have Z0 := szModule A B c d t l (1048576)
  rw [lft_le z0] at Z0
  have g0 : 0 ≤ 1048576 - ((szMod t l : Nat) : Int) := by omega
  have Z1 := szValueS_c A1 c1 args (1048576 - ((szMod t l : Nat) : Int))
  rw [lft_le z1] at Z1
  have g1 : 0 ≤ 1048576 - ((szMod t l : Nat) : Int) - ((sumOf msValue args : Nat) : Int) := by omega
  obtain ⟨htm, hm, hv⟩ := szMod_small z0
  have hv2 : ∀ x ∈ l, x.code.length ≤ 1048576 ∧ -9223372036854775808 ≤ x.locals ∧ x.locals ≤ 9223372036854775807 := fun x h => ⟨hv x h, wf_lo (hL.2 x h).2.1, wf_hi (hL.2 x h).2.1⟩
  have hlen1 : args.length ≤ 1048576 ∧ ∀ y ∈ args, MValue y := ⟨by unfold sumOf at *; omega, fun y hy => by have h9 := mem_sum msValue _ y hy; exact MValue_of (by unfold sumOf at *; omega)⟩
  have hct0 := ctFunc_small l hm hv
  have hct1 := ctLeValue args
  have hsmall0 := newTierV_ms t l args
  obtain ⟨X, hX⟩ : ∃ X : DTier, newTierV t l args = X := ⟨_, rfl⟩
  rw [hX] at hsmall0
  have HX := Lib.hid hX
  clear hX
  have hsmall := MTier_of hsmall0
  have hmsX : msTier X = msVm X.vm + X.sites.length + sumOf msFast X.codes + X.fails.length := rfl
  rw [hmsX] at hsmall0
  have hmsX_vm : msVm X.vm = sumOf msFrame X.vm.frames + sumOf msRec X.vm.heap + sumOf ByteArray.size X.vm.out + msValue X.vm.value := rfl
  have hcX0 := ctLeFrame X.vm.frames
  have hcX1 := ctLeRec X.vm.heap
  have hcX3 := ctL_const 1 X.vm.out
  have hcX10 := ctLeSite X.sites
  have hcX11 := ctLeFast X.codes
  have hcX12 := ctLeFail X.fails
  have hcL0 : X.vm.frames.length ≤ sumOf msFrame X.vm.frames := by unfold sumOf; omega
  have hcL1 : X.vm.heap.length ≤ sumOf msRec X.vm.heap := by unfold sumOf; omega
  have hcL3 : X.vm.out.length ≤ sumOf ByteArray.size X.vm.out := by unfold sumOf; omega
  have hcL11 : X.codes.length ≤ sumOf msFast X.codes := by unfold sumOf; omega
  have hS := (St.start w).made (.cells #[.slice A t.length c, .slice B l.length d] 25 (0, 0))
  go_enter Tryz.func9, Tryz.ntmps9
  go_wp2_with fail
  refine (Z0 _ (ht0.below hS.bel) (hr0.below hS.bel) hT.1 hL.1 hT.2 (fun x h => (hL.2 x h).2.2.1) (by omega) (by omega)).mono ?_
  rintro e w1 ⟨rfl, hb⟩
  try clear x_P0
  replace hS := hS.step hb
  clear hb
  have x_P0 := hS.cell 0 rfl
  go_wp2_with fail
  refine (Z1 _ (hr1.below hS.bel) hV1.1 hV1.2 (by omega) (by omega)).mono ?_
  rintro e w2 ⟨rfl, hb⟩
  try clear x_P0
  replace hS := hS.step hb
  clear hb
  have x_P0 := hS.cell 0 rfl
  go_wp2_with fail
  refine (toModule _ _ _ _ t l _ (ht0.below hS.bel) (hr0.below hS.bel) htm hm hv).mono ?_
  rintro e w3 ⟨v, u, F3, G3, rfl, hot, hor, hnd, hF, hb⟩
  try clear x_P0
  replace hS := St.newMod hS hot hor hnd hF hb
  clear hot hor hnd hF hb
  obtain ⟨A3, c3, B3, d3, rfl, rfl, _, _⟩ := St.modR hS 0 rfl
  have x_P0 := hS.cell 1 rfl
  go_wp2_with fail
  refine (toValueS_c _ _ args _ (hr1.below hS.bel) hlen1).mono ?_
  intro e w4 hn
  try clear x_P0
  obtain ⟨A4, c4, F4, rfl, hS2⟩ := St.newRowF hS hn
  replace hS := hS2
  clear hn hS2
  try dsimp only [List.set_cons_succ, List.set_cons_zero, List.cons_append, List.nil_append, List.eraseIdx_cons_succ, List.eraseIdx_cons_zero] at hS
  have x_P0 := hS.cell 2 rfl
  go_wp2_with fail
  refine (newTier3 _ _ _ _ _ _ t l args _ ⟨(St.modA hS 1 rfl).1, (St.modA hS 1 rfl).2, htm, hm, hT.2, hv2⟩ (St.rowA hS 0 rfl) hlen1 HX.out).mono ?_
  rintro e w5 ⟨v5_0, v5_1, v5_3, v5_10, v5_11, v5_12, F5_0, F5_1, F5_3, F5_10, F5_11, F5_12, rfl, hSx⟩
  try clear x_P0
  replace hS := hS.join hSx
  clear hSx
  obtain ⟨A5_0, c5_0, rfl, _, _⟩ := hS.row 0 rfl
  obtain ⟨A5_1, c5_1, rfl, _, _⟩ := hS.row 1 rfl
  obtain ⟨A5_3, c5_3, rfl, _, _⟩ := hS.row 2 rfl
  obtain ⟨A5_10, c5_10, rfl, _, _⟩ := hS.row 3 rfl
  obtain ⟨A5_11, c5_11, rfl, _, _⟩ := hS.row 4 rfl
  obtain ⟨A5_12, c5_12, rfl, _, _⟩ := hS.row 5 rfl
  replace hS := (hS.front 7 rfl).drop
  replace hS := (hS.front 6 rfl).drop
  try dsimp only [List.set_cons_succ, List.set_cons_zero, List.cons_append, List.nil_append, List.eraseIdx_cons_succ, List.eraseIdx_cons_zero] at hS
  have x_P0 := hS.cell 6 rfl
  as_aux_lemma =>
    try clear x_P0
    try clear x_b6
    replace hS := hS.made (.cells #[.slice A5_0 X.vm.frames.length c5_0, .slice A5_1 X.vm.heap.length c5_1, .int .i64 X.vm.made, .slice A5_3 X.vm.out.length c5_3, .int .i64 X.vm.status, .int .i64 X.vm.trap, .int .i64 X.vm.value.k, .int .i64 X.vm.value.n, .string X.vm.value.s, .int .i64 X.vm.steps, .slice A5_10 X.sites.length c5_10, .slice A5_11 X.codes.length c5_11, .slice A5_12 X.fails.length c5_12, .int .i64 X.guards, .int .i64 X.entered] 75 (0, 0))
    have x_P0 := hS.cell 7 rfl
    have x_b6 := hS.cell 0 rfl
    go_wp2_with fail
    refine (toModule _ _ _ _ t l _ (ht0.below hS.bel) (hr0.below hS.bel) htm hm hv).mono ?_
    rintro e w7 ⟨v, u, F7, G7, rfl, hot, hor, hnd, hF, hb⟩
    try clear x_P0
    try clear x_b6
    replace hS := St.newMod hS hot hor hnd hF hb
    clear hot hor hnd hF hb
    obtain ⟨A7, c7, B7, d7, rfl, rfl, _, _⟩ := St.modR hS 0 rfl
    have x_P0 := hS.cell 8 rfl
    have x_b6 := hS.cell 1 rfl
    try clear x_P0
    try clear x_b6
    try clear x_b8
    replace hS := hS.made (.cells #[.slice A7 t.length c7, .slice B7 l.length d7] 37 (0, 0))
    have x_P0 := hS.cell 9 rfl
    have x_b6 := hS.cell 2 rfl
    have x_b8 := hS.cell 0 rfl
    go_wp2_with fail
    refine (toValueS_c _ _ args _ (hr1.below hS.bel) hlen1).mono ?_
    intro e w9 hn
    try clear x_P0
    try clear x_b6
    try clear x_b8
    obtain ⟨A9, c9, F9, rfl, hS2⟩ := St.newRowF hS hn
    replace hS := hS2
    clear hn hS2
    try dsimp only [List.set_cons_succ, List.set_cons_zero, List.cons_append, List.nil_append, List.eraseIdx_cons_succ, List.eraseIdx_cons_zero] at hS
    have x_P0 := hS.cell 10 rfl
    have x_b6 := hS.cell 3 rfl
    have x_b8 := hS.cell 1 rfl
    go_wp2_with fail
    refine (newTierI _ _ _ _ _ _ t l args _ ⟨(St.modA hS 2 rfl).1, (St.modA hS 2 rfl).2, htm, hm, hT.2, hv2⟩ (St.rowA hS 0 rfl) hlen1 HX.out).mono ?_
    rintro e w10 ⟨v10_0, v10_1, v10_3, v10_10, v10_11, v10_12, F10_0, F10_1, F10_3, F10_10, F10_11, F10_12, rfl, hSx⟩
    try clear x_P0
    try clear x_b6
    try clear x_b8
    replace hS := hS.join hSx
    clear hSx
    obtain ⟨A10_0, c10_0, rfl, _, _⟩ := hS.row 0 rfl
    obtain ⟨A10_1, c10_1, rfl, _, _⟩ := hS.row 1 rfl
    obtain ⟨A10_3, c10_3, rfl, _, _⟩ := hS.row 2 rfl
    obtain ⟨A10_10, c10_10, rfl, _, _⟩ := hS.row 3 rfl
    obtain ⟨A10_11, c10_11, rfl, _, _⟩ := hS.row 4 rfl
    obtain ⟨A10_12, c10_12, rfl, _, _⟩ := hS.row 5 rfl
    try dsimp only [List.set_cons_succ, List.set_cons_zero, List.cons_append, List.nil_append, List.eraseIdx_cons_succ, List.eraseIdx_cons_zero] at hS
    have x_P0 := hS.cell 16 rfl
    have x_b6 := hS.cell 9 rfl
    have x_b8 := hS.cell 7 rfl
    as_aux_lemma =>
      try clear x_P0
      try clear x_b6
      try clear x_b8
      try clear x_b11
      replace hS := hS.made (.cells #[.slice A10_0 X.vm.frames.length c10_0, .slice A10_1 X.vm.heap.length c10_1, .int .i64 X.vm.made, .slice A10_3 X.vm.out.length c10_3, .int .i64 X.vm.status, .int .i64 X.vm.trap, .int .i64 X.vm.value.k, .int .i64 X.vm.value.n, .string X.vm.value.s, .int .i64 X.vm.steps, .slice A10_10 X.sites.length c10_10, .slice A10_11 X.codes.length c10_11, .slice A10_12 X.fails.length c10_12, .int .i64 X.guards, .int .i64 X.entered] 75 (0, 0))
      have x_P0 := hS.cell 17 rfl
      have x_b6 := hS.cell 10 rfl
      have x_b8 := hS.cell 8 rfl
      have x_b11 := hS.cell 0 rfl
      go_wp2_with fail
      refine (eqTier_c _ _ _ _ _ _ _ _ _ _ _ _ _ _ _ _ _ _ _ _ _ _ _ _ X _ (St.rowA hS 1 rfl) (St.rowA hS 2 rfl) (St.rowA hS 3 rfl) (St.rowA hS 4 rfl) (St.rowA hS 5 rfl) (St.rowA hS 6 rfl) (St.rowA hS 11 rfl) (St.rowA hS 12 rfl) (St.rowA hS 13 rfl) (St.rowA hS 14 rfl) (St.rowA hS 15 rfl) (St.rowA hS 16 rfl)).mono ?_
      rintro e w12 ⟨rfl, hb⟩
      try clear x_P0
      try clear x_b6
      try clear x_b8
      try clear x_b11
      replace hS := hS.step hb
      clear hb
      have x_P0 := hS.cell 17 rfl
      have x_b6 := hS.cell 10 rfl
      have x_b8 := hS.cell 8 rfl
      have x_b11 := hS.cell 0 rfl
      go_wp2
      try clear x_P0
      try clear x_b6
      try clear x_b8
      try clear x_b11
      replace hS := hS.drew
      refine wp_region_held_drew (S := (fun w' => w'.cell? ⟨w7.heap.size, 0, none⟩ = some (.slice A7 t.length c7) ∧ w'.cell? ⟨w7.heap.size, 1, none⟩ = some (.slice B7 l.length d7) ∧ w'.cell? ⟨w.heap.size, 0, none⟩ = some (.slice A t.length c) ∧ w'.cell? ⟨w.heap.size, 1, none⟩ = some (.slice B l.length d))) (by kernel_rfl) (⟨hS.cell 8 rfl 0, hS.cell 8 rfl 1, hS.cell 17 rfl 0, hS.cell 17 rfl 1⟩) (fun hHeld => ?_)
      first | (refine regW 0 (v := ?_) rfl (by rfl) (by kernel_rfl) (fun _ _ _ h => h) ?_ (by assumption) ?_; rotate_left; focus (intro w9 hSw; (try dsimp only at hSw); go_simp; (try with_reducible rfl); done)) | refine regU 0 rfl (by rfl) (by kernel_rfl) (fun _ _ _ h => h) (by assumption) ?_ | refine regN 0 rfl (by rfl) (by kernel_rfl) (by assumption) ?_
      try simp only [Act.put, List.setIfInBounds_toArray, List.set_cons_zero, List.set_cons_succ]
      first | (refine regW 1 (v := ?_) rfl (by rfl) (by kernel_rfl) (fun _ _ _ h => h) ?_ (by assumption) ?_; rotate_left; focus (intro w9 hSw; (try dsimp only at hSw); go_simp; (try with_reducible rfl); done)) | refine regU 1 rfl (by rfl) (by kernel_rfl) (fun _ _ _ h => h) (by assumption) ?_ | refine regN 1 rfl (by rfl) (by kernel_rfl) (by assumption) ?_
      try simp only [Act.put, List.setIfInBounds_toArray, List.set_cons_zero, List.set_cons_succ]
      refine regC 2 rfl (by kernel_rfl) (by rfl) (fun Kq hKq => ?_)
      go_simp
      (with_reducible refine (toModule _ _ _ _ t l _ (ht0.below hS.bel) (hr0.below hS.bel) htm hm hv).mono ?_)
      rintro e w13 ⟨v, u, F13, G13, rfl, hot, hor, hnd, hF, hb⟩; replace hS := St.newMod hS hot hor hnd hF hb; clear hot hor hnd hF hb; obtain ⟨A13, c13, B13, d13, rfl, rfl, _, _⟩ := St.modR hS 0 rfl
      try go_wp2_with fail
      refine hKq.out _ _ (⟨hS.cell 9 rfl 0, hS.cell 9 rfl 1, hS.cell 18 rfl 0, hS.cell 18 rfl 1⟩) (fun hHeld => ?_)
      clear hKq Kq
      (try simp only [Act.put, List.setIfInBounds_toArray, List.set_cons_zero, List.set_cons_succ])
      refine regC 3 rfl (by kernel_rfl) (by rfl) (fun Kq hKq => ?_)
      go_simp
      (with_reducible refine (eqModule _ _ _ _ _ _ _ _ t l _ (St.modA hS 10 rfl).1 (St.modA hS 10 rfl).2 (St.modA hS 0 rfl).1 (St.modA hS 0 rfl).2).mono ?_)
      rintro e w14 ⟨rfl, hb⟩; replace hS := hS.step hb; clear hb
      try go_wp2_with fail
      refine hKq.out _ _ (⟨hS.cell 9 rfl 0, hS.cell 9 rfl 1, hS.cell 18 rfl 0, hS.cell 18 rfl 1⟩) (fun hHeld => ?_)
      clear hKq Kq
      (try simp only [Act.put, List.setIfInBounds_toArray, List.set_cons_zero, List.set_cons_succ])
      first | (refine regW 4 (v := ?_) rfl (by rfl) (by kernel_rfl) (fun _ _ _ h => h) ?_ (by assumption) ?_; rotate_left; focus (intro w9 hSw; (try dsimp only at hSw); go_simp; (try with_reducible rfl); done)) | refine regU 4 rfl (by rfl) (by kernel_rfl) (fun _ _ _ h => h) (by assumption) ?_ | refine regN 4 rfl (by rfl) (by kernel_rfl) (by assumption) ?_
      try simp only [Act.put, List.setIfInBounds_toArray, List.set_cons_zero, List.set_cons_succ]
      refine wpAnyH_done (by kernel_rfl) ?_ _
      clear hHeld
      have x_P0 := hS.cell 18 rfl
      have x_b6 := hS.cell 11 rfl
      have x_b8 := hS.cell 9 rfl
      have x_b11 := hS.cell 1 rfl
      go_wp2_with fail
      refine (toValueS_c _ _ args _ (hr1.below hS.bel) hlen1).mono ?_
      intro e w15 hn
      try clear x_P0
      try clear x_b6
      try clear x_b8
      try clear x_b11
      obtain ⟨A15, c15, F15, rfl, hS2⟩ := St.newRowF hS hn
      replace hS := hS2
      clear hn hS2
      try dsimp only [List.set_cons_succ, List.set_cons_zero, List.cons_append, List.nil_append, List.eraseIdx_cons_succ, List.eraseIdx_cons_zero] at hS
      have x_P0 := hS.cell 19 rfl
      have x_b6 := hS.cell 12 rfl
      have x_b8 := hS.cell 10 rfl
      have x_b11 := hS.cell 2 rfl
      go_wp2_with fail
      refine (eqValueS_c _ _ _ _ args _ (St.rowA hS 9 rfl) (St.rowA hS 0 rfl)).mono ?_
      rintro e w16 ⟨rfl, hb⟩
      try clear x_P0
      try clear x_b6
      try clear x_b8
      try clear x_b11
      replace hS := hS.step hb
      clear hb
      replace hS := (hS.front 0 rfl).drop
      try dsimp only [List.set_cons_succ, List.set_cons_zero, List.cons_append, List.nil_append, List.eraseIdx_cons_succ, List.eraseIdx_cons_zero] at hS
      have x_P0 := hS.cell 18 rfl
      have x_b6 := hS.cell 11 rfl
      have x_b8 := hS.cell 9 rfl
      have x_b11 := hS.cell 1 rfl
      go_wp2_with fail
      refine (markModule _ _ t l 1 F7 G7 _ (hS.get 10 rfl).1 (hS.get 10 rfl).2 (hS.nodup 10 rfl) (by omega) (by omega) (by omega) (by omega) (fun x h => by have := hv x h; omega)).mono ?_
      rintro e w17 ⟨rfl, hmt, hml, hB⟩
      try clear x_P0
      try clear x_b6
      try clear x_b8
      try clear x_b11
      have hndx : (F7 ++ G7).Nodup := by have h9 := hS.nodup 10 rfl; exact h9
      replace hS := hS.upd (r' := Res.mod _ _ _ _ F7 G7) 10 rfl hB ⟨hmt, hml⟩ hndx (fun q hq => .inl hq)
      clear hmt hml hB hndx
      try dsimp only [List.set_cons_succ, List.set_cons_zero, List.cons_append, List.nil_append, List.eraseIdx_cons_succ, List.eraseIdx_cons_zero] at hS
      have x_P0 := hS.cell 18 rfl
      have x_b6 := hS.cell 11 rfl
      have x_b8 := hS.cell 9 rfl
      have x_b11 := hS.cell 1 rfl
      as_aux_lemma =>
        go_wp2_with fail
        refine (markValueS_c _ args (1 + (t.length : Int) + (ctL ctFunc l : Int)) F9 _ (St.own_ hS 8 rfl) (hS.nodup 8 rfl) (by omega) (by omega) hlen1).mono ?_
        rintro e w18 ⟨rfl, hmo, hB⟩
        try clear x_P0
        try clear x_b6
        try clear x_b8
        try clear x_b11
        have hndx : F9.Nodup := by have h9 := hS.nodup 8 rfl; exact h9
        replace hS := hS.upd (r' := Res.own kValue 41 _ (mkL mkValue ctValue (1 + (t.length : Int) + (ctL ctFunc l : Int)) args) F9) 8 rfl hB hmo hndx (fun q hq => .inl hq)
        clear hmo hB hndx
        try dsimp only [List.set_cons_succ, List.set_cons_zero, List.cons_append, List.nil_append, List.eraseIdx_cons_succ, List.eraseIdx_cons_zero] at hS
        have x_P0 := hS.cell 18 rfl
        have x_b6 := hS.cell 11 rfl
        have x_b8 := hS.cell 9 rfl
        have x_b11 := hS.cell 1 rfl
        as_aux_lemma =>
          go_wp2_with fail
          refine (eqTier_c _ _ _ _ _ _ _ _ _ _ _ _ _ _ _ _ _ _ _ _ _ _ _ _ X _ (St.rowA hS 2 rfl) (St.rowA hS 3 rfl) (St.rowA hS 4 rfl) (St.rowA hS 5 rfl) (St.rowA hS 6 rfl) (St.rowA hS 7 rfl) (St.rowA hS 12 rfl) (St.rowA hS 13 rfl) (St.rowA hS 14 rfl) (St.rowA hS 15 rfl) (St.rowA hS 16 rfl) (St.rowA hS 17 rfl)).mono ?_
          rintro e w19 ⟨rfl, hb⟩
          try clear x_P0
          try clear x_b6
          try clear x_b8
          try clear x_b11
          replace hS := hS.step hb
          clear hb
          have x_P0 := hS.cell 18 rfl
          have x_b6 := hS.cell 11 rfl
          have x_b8 := hS.cell 9 rfl
          have x_b11 := hS.cell 1 rfl
          go_wp2_with fail
          refine (markTier_c X _ _ _ _ _ _ F10_0 F10_1 F10_3 F10_10 F10_11 F10_12 1 w _ _ hS 2 rfl 3 rfl 4 rfl 5 rfl 6 rfl 7 rfl (by decide) (by decide) (by decide) (by decide) (by decide) (by decide) (by decide) (by decide) (by decide) (by decide) (by decide) (by decide) (by decide) (by decide) (by decide) (by omega) (by omega) hsmall).mono ?_
          rintro e w20 ⟨rfl, hS2⟩
          try clear x_P0
          try clear x_b6
          try clear x_b8
          try clear x_b11
          replace hS := hS2
          clear hS2
          try dsimp only [List.set_cons_succ, List.set_cons_zero, List.cons_append, List.nil_append, List.eraseIdx_cons_succ, List.eraseIdx_cons_zero] at hS
          have x_P0 := hS.cell 18 rfl
          have x_b6 := hS.cell 11 rfl
          have x_b8 := hS.cell 9 rfl
          have x_b11 := hS.cell 1 rfl
          as_aux_lemma =>
            go_wp2_with fail
            refine (heldTier_c _ _ _ _ _ _ _ _ _ _ _ _ X 1 _ (St.rowN hS 2 rfl (mkL_len _ _ _ _)) (St.rowN hS 3 rfl (mkL_len _ _ _ _)) (St.rowN hS 4 rfl (mkL_len _ _ _ _)) (St.rowN hS 5 rfl (mkL_len _ _ _ _)) (St.rowN hS 6 rfl (mkL_len _ _ _ _)) (St.rowN hS 7 rfl (mkL_len _ _ _ _)) (by omega) (by omega) hsmall).mono ?_
            rintro e w21 ⟨rfl, hb⟩
            try clear x_P0
            try clear x_b6
            try clear x_b8
            try clear x_b11
            replace hS := hS.step hb
            clear hb
            have x_P0 := hS.cell 18 rfl
            have x_b6 := hS.cell 11 rfl
            have x_b8 := hS.cell 9 rfl
            have x_b11 := hS.cell 1 rfl
            go_wp2_with fail
            refine (toModule _ _ _ _ t l _ (ht0.below hS.bel) (hr0.below hS.bel) htm hm hv).mono ?_
            rintro e w22 ⟨v, u, F22, G22, rfl, hot, hor, hnd, hF, hb⟩
            try clear x_P0
            try clear x_b6
            try clear x_b8
            try clear x_b11
            replace hS := St.newMod hS hot hor hnd hF hb
            clear hot hor hnd hF hb
            obtain ⟨A22, c22, B22, d22, rfl, rfl, _, _⟩ := St.modR hS 0 rfl
            have x_P0 := hS.cell 19 rfl
            have x_b6 := hS.cell 12 rfl
            have x_b8 := hS.cell 10 rfl
            have x_b11 := hS.cell 2 rfl
            go_wp2_with fail
            refine (toValueS_c _ _ args _ (hr1.below hS.bel) hlen1).mono ?_
            intro e w23 hn
            try clear x_P0
            try clear x_b6
            try clear x_b8
            try clear x_b11
            obtain ⟨A23, c23, F23, rfl, hS2⟩ := St.newRowF hS hn
            replace hS := hS2
            clear hn hS2
            try dsimp only [List.set_cons_succ, List.set_cons_zero, List.cons_append, List.nil_append, List.eraseIdx_cons_succ, List.eraseIdx_cons_zero] at hS
            have x_P0 := hS.cell 20 rfl
            have x_b6 := hS.cell 13 rfl
            have x_b8 := hS.cell 11 rfl
            have x_b11 := hS.cell 3 rfl
            go_wp2_with fail
            refine (newTierI _ _ _ _ _ _ t l args _ ⟨(St.modA hS 1 rfl).1, (St.modA hS 1 rfl).2, htm, hm, hT.2, hv2⟩ (St.rowA hS 0 rfl) hlen1 HX.out).mono ?_
            rintro e w24 ⟨v24_0, v24_1, v24_3, v24_10, v24_11, v24_12, F24_0, F24_1, F24_3, F24_10, F24_11, F24_12, rfl, hSx⟩
            try clear x_P0
            try clear x_b6
            try clear x_b8
            try clear x_b11
            replace hS := hS.join hSx
            clear hSx
            obtain ⟨A24_0, c24_0, rfl, _, _⟩ := hS.row 0 rfl
            obtain ⟨A24_1, c24_1, rfl, _, _⟩ := hS.row 1 rfl
            obtain ⟨A24_3, c24_3, rfl, _, _⟩ := hS.row 2 rfl
            obtain ⟨A24_10, c24_10, rfl, _, _⟩ := hS.row 3 rfl
            obtain ⟨A24_11, c24_11, rfl, _, _⟩ := hS.row 4 rfl
            obtain ⟨A24_12, c24_12, rfl, _, _⟩ := hS.row 5 rfl
            replace hS := (hS.front 7 rfl).drop
            replace hS := (hS.front 6 rfl).drop
            try dsimp only [List.set_cons_succ, List.set_cons_zero, List.cons_append, List.nil_append, List.eraseIdx_cons_succ, List.eraseIdx_cons_zero] at hS
            have x_P0 := hS.cell 24 rfl
            have x_b6 := hS.cell 17 rfl
            have x_b8 := hS.cell 15 rfl
            have x_b11 := hS.cell 7 rfl
            as_aux_lemma =>
              try clear x_P0
              try clear x_b6
              try clear x_b8
              try clear x_b11
              try clear x_b25
              replace hS := hS.made (.cells #[.slice A24_0 X.vm.frames.length c24_0, .slice A24_1 X.vm.heap.length c24_1, .int .i64 X.vm.made, .slice A24_3 X.vm.out.length c24_3, .int .i64 X.vm.status, .int .i64 X.vm.trap, .int .i64 X.vm.value.k, .int .i64 X.vm.value.n, .string X.vm.value.s, .int .i64 X.vm.steps, .slice A24_10 X.sites.length c24_10, .slice A24_11 X.codes.length c24_11, .slice A24_12 X.fails.length c24_12, .int .i64 X.guards, .int .i64 X.entered] 75 (0, 0))
              have x_P0 := hS.cell 25 rfl
              have x_b6 := hS.cell 18 rfl
              have x_b8 := hS.cell 16 rfl
              have x_b11 := hS.cell 8 rfl
              have x_b25 := hS.cell 0 rfl
              go_wp2_with fail
              refine (eqTier_c _ _ _ _ _ _ _ _ _ _ _ _ _ _ _ _ _ _ _ _ _ _ _ _ X _ (St.rowA hS 1 rfl) (St.rowA hS 2 rfl) (St.rowA hS 3 rfl) (St.rowA hS 4 rfl) (St.rowA hS 5 rfl) (St.rowA hS 6 rfl) (St.rowA hS 19 rfl) (St.rowA hS 20 rfl) (St.rowA hS 21 rfl) (St.rowA hS 22 rfl) (St.rowA hS 23 rfl) (St.rowA hS 24 rfl)).mono ?_
              rintro e w26 ⟨rfl, hb⟩
              try clear x_P0
              try clear x_b6
              try clear x_b8
              try clear x_b11
              try clear x_b25
              replace hS := hS.step hb
              clear hb
              have x_P0 := hS.cell 25 rfl
              have x_b6 := hS.cell 18 rfl
              have x_b8 := hS.cell 16 rfl
              have x_b11 := hS.cell 8 rfl
              have x_b25 := hS.cell 0 rfl
              go_wp2_with fail
              refine (heldTier_c _ _ _ _ _ _ _ _ _ _ _ _ X 1 _ (St.rowN hS 9 rfl (mkL_len _ _ _ _)) (St.rowN hS 10 rfl (mkL_len _ _ _ _)) (St.rowN hS 11 rfl (mkL_len _ _ _ _)) (St.rowN hS 12 rfl (mkL_len _ _ _ _)) (St.rowN hS 13 rfl (mkL_len _ _ _ _)) (St.rowN hS 14 rfl (mkL_len _ _ _ _)) (by omega) (by omega) hsmall).mono ?_
              rintro e w27 ⟨rfl, hb⟩
              try clear x_P0
              try clear x_b6
              try clear x_b8
              try clear x_b11
              try clear x_b25
              replace hS := hS.step hb
              clear hb
              have x_P0 := hS.cell 25 rfl
              have x_b6 := hS.cell 18 rfl
              have x_b8 := hS.cell 16 rfl
              have x_b11 := hS.cell 8 rfl
              have x_b25 := hS.cell 0 rfl
              go_wp2
              go_ret
              exact ⟨rfl, hS.bel⟩
theorem lawNewTier (t : List ByteArray) (l : List DFunc) (args : List DValue) (w : World) {A B : Option Addr} {c d : Nat} {A1 : Option Addr} {c1 : Nat} (ht0 : Knd.str.Row w A t.length t) (h_t : t.length ≤ c) (hr0 : kFunc.Row w B l.length l) (h_l : l.length ≤ d) (hr1 : kValue.Row w A1 args.length args) (h_args : args.length ≤ c1) (hT : t.length ≤ maxLen ∧ ∀ y ∈ t, y.size ≤ maxLen) (hL : l.length ≤ maxLen ∧ ∀ y ∈ l, VFunc y) (hV1 : args.length ≤ maxLen ∧ ∀ y ∈ args, VValue y) : Calls Tryz.prog 9 #[.agg #[.slice A t.length c, .slice B l.length d], .slice A1 args.length c1] w fun e w' => e = .returned (.bool true) ∧ Below w.heap.size w w' := lawxNewTier t l args w ht0 h_t hr0 h_l hr1 h_args hT hL hV1
end Go.Proofs.YticlknijmnddeaaGreat.Dat
