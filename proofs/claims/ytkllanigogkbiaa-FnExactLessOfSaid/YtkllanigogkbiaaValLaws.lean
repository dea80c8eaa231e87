/- The walks of the laws of SameOf, NotOf, LessOf, AddOf, SubOf and MulOf. -/
import Derived.Test.YtkllanigogkbiaaVal2
import Derived.Test.YtkllanigogkbiaaInv
namespace Go.Proofs.Ytkllanigogkbiaa.Val
open Go Go.RowKit Go.Proofs.Ytkllanigogkbiaa.Mem Go.Proofs.YtkllanigogkbiaaW.PrintLast
set_option linter.unusedVariables false
set_option linter.unusedSimpArgs false
theorem lft_ok {n : Nat} {left : Int} (h : (n : Int) ≤ left) : lft n left = left - n := by simp [lft, h]
theorem lft_no {n : Nat} {left : Int} (h : ¬ (n : Int) ≤ left) : lft n left = -1 := by simp [lft]; omega
theorem szV_ok (ak an : Int) (as_ : ByteArray) (left : Int) (w : World) (hm : as_.size ≤ maxLen) (h0 : 0 ≤ left) (h1 : left ≤ 1048576) (h : (as_.size : Int) ≤ left) : Calls Try.prog 15 #[.agg #[.int .i64 ak, .int .i64 an, .string as_], .int .i64 left] w fun e w' => e = .returned (.int .i64 (left - as_.size)) ∧ Below w.heap.size w w' := by
  have := szV ak an as_ left w hm h0 h1
  rwa [lft_ok h] at this
theorem szV_no (ak an : Int) (as_ : ByteArray) (left : Int) (w : World) (hm : as_.size ≤ maxLen) (h0 : 0 ≤ left) (h1 : left ≤ 1048576) (h : left < (as_.size : Int)) : Calls Try.prog 15 #[.agg #[.int .i64 ak, .int .i64 an, .string as_], .int .i64 left] w fun e w' => e = .returned (.int .i64 (-1)) ∧ Below w.heap.size w w' := by
  have := szV ak an as_ left w hm h0 h1
  rwa [lft_no (by omega)] at this

set_option maxHeartbeats 1000000 in
set_option maxRecDepth 100000 in
set_option maxHeartbeats 1000000 in
set_option maxRecDepth 100000 in
set_option maxHeartbeats 1000000 in
set_option maxRecDepth 100000 in
theorem notLaw (ak an : Int) (au : ByteArray) (w : World) (ha1 : (Lit.int .i64 ak).wf = true) (ha2 : (Lit.int .i64 an).wf = true) (hma : au.size ≤ maxLen) : Calls Try.prog 5 #[.agg #[.int .i64 ak, .int .i64 an, .string au]] w fun e w' => e = .returned (.bool true) ∧ Below w.heap.size w w' := by
  clear ha1 ha2
  by_cases hsa : (au.size : Int) ≤ 1048576
  rotate_left
  · have hs := hsa
    go_enter Try.func5, Try.ntmps5
    go_wp2_with fail
    refine (szV_no ak an au (1048576) _ hma (by omega) (by omega) (by omega)).mono ?_
    rintro e w1 ⟨rfl, hb1⟩
    have hI1 := ((Inv.start w).made _ (w.heap.size) (by simp)).step hb1
    clear hb1
    have x1_0 := hI1.cell 0 rfl
    have y1_0 := hI1.lt 0 rfl
    go_wp2
    go_ret
    exact ⟨rfl, hI1.bel⟩
  have ga : 0 ≤ 1048576 - (au.size : Int) := by omega
  go_enter Try.func5, Try.ntmps5
  go_wp2_with fail
  refine (szV_ok ak an au (1048576) _ hma (by omega) (by omega) (by omega)).mono ?_
  rintro e w1 ⟨rfl, hb1⟩
  have hI1 := ((Inv.start w).made _ (w.heap.size) (by simp)).step hb1
  clear hb1
  have x1_0 := hI1.cell 0 rfl
  have y1_0 := hI1.lt 0 rfl
  go_wp2_with fail
  refine (toV _ _ _ _).mono ?_
  rintro e w2 ⟨rfl, hb2⟩
  have hI2 := hI1.step hb2
  clear hb2 x1_0 y1_0 hI1
  have x2_0 := hI2.cell 0 rfl
  have y2_0 := hI2.lt 0 rfl
  go_wp2_with fail
  refine (not04 _ _ _ _).mono ?_
  rintro e w3 ⟨rfl, hb3⟩
  have hI3 := hI2.step hb3
  clear hb3 x2_0 y2_0 hI2
  have x3_0 := hI3.cell 0 rfl
  have y3_0 := hI3.lt 0 rfl
  go_wp2_with fail
  refine (toV _ _ _ _).mono ?_
  rintro e w4 ⟨rfl, hb4⟩
  have hI4 := (hI3.made _ (w3.heap.size) (by simp)).step hb4
  clear hb4 x3_0 y3_0 hI3
  have x4_0 := hI4.cell 0 rfl
  have y4_0 := hI4.lt 0 rfl
  have x4_1 := hI4.cell 1 rfl
  have y4_1 := hI4.lt 1 rfl
  go_wp2_with fail
  refine (notI _ _ _ _).mono ?_
  rintro e w5 ⟨rfl, hb5⟩
  have hI5 := hI4.step hb5
  clear hb5 x4_0 y4_0 x4_1 y4_1 hI4
  have x5_0 := hI5.cell 0 rfl
  have y5_0 := hI5.lt 0 rfl
  have x5_1 := hI5.cell 1 rfl
  have y5_1 := hI5.lt 1 rfl
  go_wp2_with fail
  refine (eqV _ _ _ _).mono ?_
  rintro e w6 ⟨rfl, hb6⟩
  have hI6 := (hI5.made _ (w5.heap.size) (by simp)).step hb6
  clear hb6 x5_0 y5_0 x5_1 y5_1 hI5
  have x6_0 := hI6.cell 0 rfl
  have y6_0 := hI6.lt 0 rfl
  have x6_1 := hI6.cell 1 rfl
  have y6_1 := hI6.lt 1 rfl
  have x6_2 := hI6.cell 2 rfl
  have y6_2 := hI6.lt 2 rfl
  go_wp2
  go_ret
  exact ⟨rfl, hI6.bel⟩
set_option maxHeartbeats 1000000 in
set_option maxRecDepth 100000 in
theorem sameLaw (ak an : Int) (au : ByteArray) (bk bn : Int) (bu : ByteArray) (w : World) (ha1 : (Lit.int .i64 ak).wf = true) (ha2 : (Lit.int .i64 an).wf = true) (hma : au.size ≤ maxLen) (hb1 : (Lit.int .i64 bk).wf = true) (hb2 : (Lit.int .i64 bn).wf = true) (hmb : bu.size ≤ maxLen) : Calls Try.prog 4 #[.agg #[.int .i64 ak, .int .i64 an, .string au], .agg #[.int .i64 bk, .int .i64 bn, .string bu]] w fun e w' => e = .returned (.bool true) ∧ Below w.heap.size w w' := by
  clear ha1 ha2 hb1 hb2
  by_cases hsa : (au.size : Int) ≤ 1048576
  rotate_left
  · have hs := hsa
    go_enter Try.func4, Try.ntmps4
    go_wp2_with fail
    refine (szV_no ak an au (1048576) _ hma (by omega) (by omega) (by omega)).mono ?_
    rintro e w1 ⟨rfl, hb1⟩
    have hI1 := (((Inv.start w).made _ (w.heap.size) (by simp)).made _ (w.heap.size + 1) (by simp)).step hb1
    clear hb1
    have x1_0 := hI1.cell 0 rfl
    have y1_0 := hI1.lt 0 rfl
    have x1_1 := hI1.cell 1 rfl
    have y1_1 := hI1.lt 1 rfl
    go_wp2
    go_ret
    exact ⟨rfl, hI1.bel⟩
  have ga : 0 ≤ 1048576 - (au.size : Int) := by omega
  by_cases hsb : (bu.size : Int) ≤ 1048576 - (au.size : Int)
  rotate_left
  · have hs := hsb
    go_enter Try.func4, Try.ntmps4
    go_wp2_with fail
    refine (szV_ok ak an au (1048576) _ hma (by omega) (by omega) (by omega)).mono ?_
    rintro e w1 ⟨rfl, hb1⟩
    have hI1 := (((Inv.start w).made _ (w.heap.size) (by simp)).made _ (w.heap.size + 1) (by simp)).step hb1
    clear hb1
    have x1_0 := hI1.cell 0 rfl
    have y1_0 := hI1.lt 0 rfl
    have x1_1 := hI1.cell 1 rfl
    have y1_1 := hI1.lt 1 rfl
    go_wp2_with fail
    refine (szV_no bk bn bu (1048576 - (au.size : Int)) _ hmb (by omega) (by omega) (by omega)).mono ?_
    rintro e w2 ⟨rfl, hb2⟩
    have hI2 := hI1.step hb2
    clear hb2 x1_0 y1_0 x1_1 y1_1 hI1
    have x2_0 := hI2.cell 0 rfl
    have y2_0 := hI2.lt 0 rfl
    have x2_1 := hI2.cell 1 rfl
    have y2_1 := hI2.lt 1 rfl
    go_wp2
    go_ret
    exact ⟨rfl, hI2.bel⟩
  have gb : 0 ≤ 1048576 - (au.size : Int) - (bu.size : Int) := by omega
  go_enter Try.func4, Try.ntmps4
  go_wp2_with fail
  refine (szV_ok ak an au (1048576) _ hma (by omega) (by omega) (by omega)).mono ?_
  rintro e w1 ⟨rfl, hb1⟩
  have hI1 := (((Inv.start w).made _ (w.heap.size) (by simp)).made _ (w.heap.size + 1) (by simp)).step hb1
  clear hb1
  have x1_0 := hI1.cell 0 rfl
  have y1_0 := hI1.lt 0 rfl
  have x1_1 := hI1.cell 1 rfl
  have y1_1 := hI1.lt 1 rfl
  go_wp2_with fail
  refine (szV_ok bk bn bu (1048576 - (au.size : Int)) _ hmb (by omega) (by omega) (by omega)).mono ?_
  rintro e w2 ⟨rfl, hb2⟩
  have hI2 := hI1.step hb2
  clear hb2 x1_0 y1_0 x1_1 y1_1 hI1
  have x2_0 := hI2.cell 0 rfl
  have y2_0 := hI2.lt 0 rfl
  have x2_1 := hI2.cell 1 rfl
  have y2_1 := hI2.lt 1 rfl
  go_wp2_with fail
  have hI3 := hI2
  clear x2_0 y2_0 x2_1 y2_1 hI2
  refine start_ (n := 7) (S := Inv w [(w.heap.size + 1, .cells #[.int .i64 bk, .int .i64 bn, .string bu] 24 (0, 0)), (w.heap.size, .cells #[.int .i64 ak, .int .i64 an, .string au] 24 (0, 0))]) (ds := []) #[false, false, false, false, false, false, false] (by kernel_rfl) rfl rfl hI3.drew (fun hI => ?_)
  clear hI3
  generalize World.drew _ = w3 at hI ⊢
  refine take_ (i := 0) (N := (some 18)) (v := ?_) (a' := ?_) #[true, false, false, false, false, false, false] rfl rfl (by kernel_rfl) (fun _ _ _ h => h) (Or.inl ⟨by rfl, ?_⟩) hI ?_ ?_
  rotate_left
  · intro w' h'
    have x := h'.cell 1 rfl
    go_simp
    with_reducible rfl
  rotate_left
  · simp only [Act.put, List.setIfInBounds_toArray, List.set_cons_zero, List.set_cons_succ]
    rfl
  refine take_ (i := 2) (N := (some 20)) (v := ?_) (a' := ?_) #[true, false, true, false, false, false, false] rfl rfl (by kernel_rfl) (fun _ _ _ h => h) (Or.inl ⟨by rfl, ?_⟩) hI ?_ ?_
  rotate_left
  · intro w' h'
    have x := h'.cell 0 rfl
    go_simp
    with_reducible rfl
  rotate_left
  · simp only [Act.put, List.setIfInBounds_toArray, List.set_cons_zero, List.set_cons_succ]
    rfl
  refine join_ (σ := Nat) 1 #[true, true, true, true, true, true, false] (fun g_ => [(19, .agg #[.int .i64 ak, .int .i64 an, .string au]), (21, .agg #[.int .i64 bk, .int .i64 bn, .string bu]), (22, .agg #[.int .i64 (sameV ⟨ak, an, au⟩ ⟨bk, bn, bu⟩).k, .int .i64 (sameV ⟨ak, an, au⟩ ⟨bk, bn, bu⟩).n, .string (sameV ⟨ak, an, au⟩ ⟨bk, bn, bu⟩).s]), (6, .pointer (some ⟨g_, 0, none⟩))]) (fun g_ w' => Inv w [(w.heap.size + 1, .cells #[.int .i64 bk, .int .i64 bn, .string bu] 24 (0, 0)), (w.heap.size, .cells #[.int .i64 ak, .int .i64 an, .string au] 24 (0, 0))] w' ∧ New w [(w.heap.size + 1, .cells #[.int .i64 bk, .int .i64 bn, .string bu] 24 (0, 0)), (w.heap.size, .cells #[.int .i64 ak, .int .i64 an, .string au] 24 (0, 0))] g_ (.cells #[.int .i64 0, .int .i64 0, .string (⟨#[]⟩ : ByteArray)] 26 (0, 0)) w') ?_ ?_
  rotate_left
  · intro hC
    refine two_ (i := 1) (j := 5) (Ni := (some 19)) (Nj := (some 6)) #[true, true, true, false, false, false, false] #[true, false, true, false, false, true, false] rfl rfl rfl rfl (by kernel_rfl) (by decide) (by decide) (fun K hK => ?_) (fun K hK => ?_)
    · skip
      refine goes_ Try.func17 (by kernel_rfl) rfl #[.agg #[.int .i64 ak, .int .i64 an, .string au]] (by rfl) rfl rfl (by (try simp only [List.map_toArray, List.map_cons, List.map_nil]); first | done | rfl) ?_
      refine (toV _ _ _ _).mono ?_
      rintro e w4 ⟨rfl, hb⟩
      refine ⟨_, rfl, ?_⟩
      refine hK.out _ _ (hI.step hb) (fun hI' => ?_)
      clear hK K hb hI
      have hI := hI'
      clear hI'
      refine norm_ (a' := ?_) ?_ ?_
      rotate_left
      · show Act.put _ (some 19) _ = _
        simp only [Act.put, List.setIfInBounds_toArray, List.set_cons_zero, List.set_cons_succ]
        rfl
      refine two_ (i := 3) (j := 5) (Ni := (some 21)) (Nj := (some 6)) #[true, true, true, true, false, false, false] #[true, true, true, false, false, true, false] rfl rfl rfl rfl (by kernel_rfl) (by decide) (by decide) (fun K hK => ?_) (fun K hK => ?_)
      · skip
        refine goes_ Try.func17 (by kernel_rfl) rfl #[.agg #[.int .i64 bk, .int .i64 bn, .string bu]] (by rfl) rfl rfl (by (try simp only [List.map_toArray, List.map_cons, List.map_nil]); first | done | rfl) ?_
        refine (toV _ _ _ _).mono ?_
        rintro e w5 ⟨rfl, hb⟩
        refine ⟨_, rfl, ?_⟩
        refine hK.out _ _ (hI.step hb) (fun hI' => ?_)
        clear hK K hb hI
        have hI := hI'
        clear hI'
        refine norm_ (a' := ?_) ?_ ?_
        rotate_left
        · show Act.put _ (some 21) _ = _
          simp only [Act.put, List.setIfInBounds_toArray, List.set_cons_zero, List.set_cons_succ]
          rfl
        refine two_ (i := 4) (j := 5) (Ni := (some 22)) (Nj := (some 6)) #[true, true, true, true, true, false, false] #[true, true, true, true, false, true, false] rfl rfl rfl rfl (by kernel_rfl) (by decide) (by decide) (fun K hK => ?_) (fun K hK => ?_)
        · skip
          refine goes_ Try.func16 (by kernel_rfl) rfl #[.agg #[.int .i64 ak, .int .i64 an, .string au], .agg #[.int .i64 bk, .int .i64 bn, .string bu]] (by rfl) rfl rfl (by (try simp only [List.map_toArray, List.map_cons, List.map_nil]); first | done | rfl) ?_
          refine (same04 _ _ _ _ _ _ _).mono ?_
          rintro e w6 ⟨rfl, hb⟩
          refine ⟨_, rfl, ?_⟩
          refine hK.out _ _ (hI.step hb) (fun hI' => ?_)
          clear hK K hb hI
          have hI := hI'
          clear hI'
          refine norm_ (a' := ?_) ?_ ?_
          rotate_left
          · show Act.put _ (some 22) _ = _
            simp only [Act.put, List.setIfInBounds_toArray, List.set_cons_zero, List.set_cons_succ]
            rfl
          refine one_ (i := 5) (N := (some 6)) #[true, true, true, true, true, true, false] rfl rfl (by kernel_rfl) (by decide) (fun K hK => ?_)
          refine value_ (w1 := ?_) (v := ?_) (by rfl) rfl ?_ ?_
          rotate_left 2
          · go_simp
            constructor
            · rfl
            · rfl
          have hN := New.made hI (.cells #[.int .i64 0, .int .i64 0, .string (⟨#[]⟩ : ByteArray)] 26 (0, 0))
          refine hK.out _ _ (hI.alloc _) (fun hI' => ?_)
          clear hK K hI
          have hI := hI'
          clear hI'
          refine norm_ (a' := ?_) ?_ ?_
          rotate_left
          · show Act.put _ (some 6) _ = _
            simp only [Act.put, List.setIfInBounds_toArray, List.set_cons_zero, List.set_cons_succ]
            rfl
          exact norm_ (by simp only [putAll, Act.put, List.setIfInBounds_toArray, List.set_cons_zero, List.set_cons_succ]) (hC _ _ ⟨hI, hN⟩)
        · skip
          refine value_ (w1 := ?_) (v := ?_) (by rfl) rfl ?_ ?_
          rotate_left 2
          · go_simp
            constructor
            · rfl
            · rfl
          have hN := New.made hI (.cells #[.int .i64 0, .int .i64 0, .string (⟨#[]⟩ : ByteArray)] 26 (0, 0))
          refine hK.out _ _ (hI.alloc _) (fun hI' => ?_)
          clear hK K hI
          have hI := hI'
          clear hI'
          refine norm_ (a' := ?_) ?_ ?_
          rotate_left
          · show Act.put _ (some 6) _ = _
            simp only [Act.put, List.setIfInBounds_toArray, List.set_cons_zero, List.set_cons_succ]
            rfl
          refine one_ (i := 4) (N := (some 22)) #[true, true, true, true, true, true, false] rfl rfl (by kernel_rfl) (by decide) (fun K hK => ?_)
          refine goes_ Try.func16 (by kernel_rfl) rfl #[.agg #[.int .i64 ak, .int .i64 an, .string au], .agg #[.int .i64 bk, .int .i64 bn, .string bu]] (by rfl) rfl rfl (by (try simp only [List.map_toArray, List.map_cons, List.map_nil]); first | done | rfl) ?_
          refine (same04 _ _ _ _ _ _ _).mono ?_
          rintro e w7 ⟨rfl, hb⟩
          refine ⟨_, rfl, ?_⟩
          replace hN := hN.step hb
          refine hK.out _ _ (hI.step hb) (fun hI' => ?_)
          clear hK K hb hI
          have hI := hI'
          clear hI'
          refine norm_ (a' := ?_) ?_ ?_
          rotate_left
          · show Act.put _ (some 22) _ = _
            simp only [Act.put, List.setIfInBounds_toArray, List.set_cons_zero, List.set_cons_succ]
            rfl
          exact norm_ (by simp only [putAll, Act.put, List.setIfInBounds_toArray, List.set_cons_zero, List.set_cons_succ]) (hC _ _ ⟨hI, hN⟩)
      · skip
        refine value_ (w1 := ?_) (v := ?_) (by rfl) rfl ?_ ?_
        rotate_left 2
        · go_simp
          constructor
          · rfl
          · rfl
        have hN := New.made hI (.cells #[.int .i64 0, .int .i64 0, .string (⟨#[]⟩ : ByteArray)] 26 (0, 0))
        refine hK.out _ _ (hI.alloc _) (fun hI' => ?_)
        clear hK K hI
        have hI := hI'
        clear hI'
        refine norm_ (a' := ?_) ?_ ?_
        rotate_left
        · show Act.put _ (some 6) _ = _
          simp only [Act.put, List.setIfInBounds_toArray, List.set_cons_zero, List.set_cons_succ]
          rfl
        refine one_ (i := 3) (N := (some 21)) #[true, true, true, true, false, true, false] rfl rfl (by kernel_rfl) (by decide) (fun K hK => ?_)
        refine goes_ Try.func17 (by kernel_rfl) rfl #[.agg #[.int .i64 bk, .int .i64 bn, .string bu]] (by rfl) rfl rfl (by (try simp only [List.map_toArray, List.map_cons, List.map_nil]); first | done | rfl) ?_
        refine (toV _ _ _ _).mono ?_
        rintro e w8 ⟨rfl, hb⟩
        refine ⟨_, rfl, ?_⟩
        replace hN := hN.step hb
        refine hK.out _ _ (hI.step hb) (fun hI' => ?_)
        clear hK K hb hI
        have hI := hI'
        clear hI'
        refine norm_ (a' := ?_) ?_ ?_
        rotate_left
        · show Act.put _ (some 21) _ = _
          simp only [Act.put, List.setIfInBounds_toArray, List.set_cons_zero, List.set_cons_succ]
          rfl
        refine one_ (i := 4) (N := (some 22)) #[true, true, true, true, true, true, false] rfl rfl (by kernel_rfl) (by decide) (fun K hK => ?_)
        refine goes_ Try.func16 (by kernel_rfl) rfl #[.agg #[.int .i64 ak, .int .i64 an, .string au], .agg #[.int .i64 bk, .int .i64 bn, .string bu]] (by rfl) rfl rfl (by (try simp only [List.map_toArray, List.map_cons, List.map_nil]); first | done | rfl) ?_
        refine (same04 _ _ _ _ _ _ _).mono ?_
        rintro e w9 ⟨rfl, hb⟩
        refine ⟨_, rfl, ?_⟩
        replace hN := hN.step hb
        refine hK.out _ _ (hI.step hb) (fun hI' => ?_)
        clear hK K hb hI
        have hI := hI'
        clear hI'
        refine norm_ (a' := ?_) ?_ ?_
        rotate_left
        · show Act.put _ (some 22) _ = _
          simp only [Act.put, List.setIfInBounds_toArray, List.set_cons_zero, List.set_cons_succ]
          rfl
        exact norm_ (by simp only [putAll, Act.put, List.setIfInBounds_toArray, List.set_cons_zero, List.set_cons_succ]) (hC _ _ ⟨hI, hN⟩)
    · skip
      refine value_ (w1 := ?_) (v := ?_) (by rfl) rfl ?_ ?_
      rotate_left 2
      · go_simp
        constructor
        · rfl
        · rfl
      have hN := New.made hI (.cells #[.int .i64 0, .int .i64 0, .string (⟨#[]⟩ : ByteArray)] 26 (0, 0))
      refine hK.out _ _ (hI.alloc _) (fun hI' => ?_)
      clear hK K hI
      have hI := hI'
      clear hI'
      refine norm_ (a' := ?_) ?_ ?_
      rotate_left
      · show Act.put _ (some 6) _ = _
        simp only [Act.put, List.setIfInBounds_toArray, List.set_cons_zero, List.set_cons_succ]
        rfl
      refine one_ (i := 1) (N := (some 19)) #[true, true, true, false, false, true, false] rfl rfl (by kernel_rfl) (by decide) (fun K hK => ?_)
      refine goes_ Try.func17 (by kernel_rfl) rfl #[.agg #[.int .i64 ak, .int .i64 an, .string au]] (by rfl) rfl rfl (by (try simp only [List.map_toArray, List.map_cons, List.map_nil]); first | done | rfl) ?_
      refine (toV _ _ _ _).mono ?_
      rintro e w10 ⟨rfl, hb⟩
      refine ⟨_, rfl, ?_⟩
      replace hN := hN.step hb
      refine hK.out _ _ (hI.step hb) (fun hI' => ?_)
      clear hK K hb hI
      have hI := hI'
      clear hI'
      refine norm_ (a' := ?_) ?_ ?_
      rotate_left
      · show Act.put _ (some 19) _ = _
        simp only [Act.put, List.setIfInBounds_toArray, List.set_cons_zero, List.set_cons_succ]
        rfl
      refine one_ (i := 3) (N := (some 21)) #[true, true, true, true, false, true, false] rfl rfl (by kernel_rfl) (by decide) (fun K hK => ?_)
      refine goes_ Try.func17 (by kernel_rfl) rfl #[.agg #[.int .i64 bk, .int .i64 bn, .string bu]] (by rfl) rfl rfl (by (try simp only [List.map_toArray, List.map_cons, List.map_nil]); first | done | rfl) ?_
      refine (toV _ _ _ _).mono ?_
      rintro e w11 ⟨rfl, hb⟩
      refine ⟨_, rfl, ?_⟩
      replace hN := hN.step hb
      refine hK.out _ _ (hI.step hb) (fun hI' => ?_)
      clear hK K hb hI
      have hI := hI'
      clear hI'
      refine norm_ (a' := ?_) ?_ ?_
      rotate_left
      · show Act.put _ (some 21) _ = _
        simp only [Act.put, List.setIfInBounds_toArray, List.set_cons_zero, List.set_cons_succ]
        rfl
      refine one_ (i := 4) (N := (some 22)) #[true, true, true, true, true, true, false] rfl rfl (by kernel_rfl) (by decide) (fun K hK => ?_)
      refine goes_ Try.func16 (by kernel_rfl) rfl #[.agg #[.int .i64 ak, .int .i64 an, .string au], .agg #[.int .i64 bk, .int .i64 bn, .string bu]] (by rfl) rfl rfl (by (try simp only [List.map_toArray, List.map_cons, List.map_nil]); first | done | rfl) ?_
      refine (same04 _ _ _ _ _ _ _).mono ?_
      rintro e w12 ⟨rfl, hb⟩
      refine ⟨_, rfl, ?_⟩
      replace hN := hN.step hb
      refine hK.out _ _ (hI.step hb) (fun hI' => ?_)
      clear hK K hb hI
      have hI := hI'
      clear hI'
      refine norm_ (a' := ?_) ?_ ?_
      rotate_left
      · show Act.put _ (some 22) _ = _
        simp only [Act.put, List.setIfInBounds_toArray, List.set_cons_zero, List.set_cons_succ]
        rfl
      exact norm_ (by simp only [putAll, Act.put, List.setIfInBounds_toArray, List.set_cons_zero, List.set_cons_succ]) (hC _ _ ⟨hI, hN⟩)
  rintro g3 w13 ⟨hI', hN⟩
  clear hI
  have hI := hI'
  clear hI'
  refine norm_ (a' := ?_) ?_ ?_
  rotate_left
  · simp only [putAll, Act.put, List.setIfInBounds_toArray, List.set_cons_zero, List.set_cons_succ]
    rfl
  refine one_ (i := 6) (N := none) #[true, true, true, true, true, true, true] rfl rfl (by kernel_rfl) (by decide) (fun K hK => ?_)
  refine skip_ (w1 := ?_) (by rfl) rfl ?_ ?_
  rotate_left
  · have c := hN.cell
    have f := hN.free
    go_simp
    rfl
  refine hK.out _ _ (New.inv3 hI hN _ _ _) (fun hI' => ?_)
  clear hK K
  have hN' := hN.put3 (u0 := .int .i64 (sameV ⟨ak, an, au⟩ ⟨bk, bn, bu⟩).k) (u1 := .int .i64 (sameV ⟨ak, an, au⟩ ⟨bk, bn, bu⟩).n) (u2 := .string (sameV ⟨ak, an, au⟩ ⟨bk, bn, bu⟩).s)
  have hI2 := hI'.cons hN'.blk
  clear hI hI' hN hN'
  have hI := hI2
  clear hI2
  refine done_ (by kernel_rfl) ?_
  generalize (((w13.setCell ⟨g3, 0, none⟩ (.int .i64 (sameV ⟨ak, an, au⟩ ⟨bk, bn, bu⟩).k)).setCell ⟨g3, 1, none⟩ (.int .i64 (sameV ⟨ak, an, au⟩ ⟨bk, bn, bu⟩).n)).setCell ⟨g3, 2, none⟩ (.string (sameV ⟨ak, an, au⟩ ⟨bk, bn, bu⟩).s)) = w14 at hI ⊢
  have hI4 := hI
  clear hI
  have x4_0 := hI4.cell 0 rfl
  have y4_0 := hI4.lt 0 rfl
  have x4_1 := hI4.cell 1 rfl
  have y4_1 := hI4.lt 1 rfl
  have x4_2 := hI4.cell 2 rfl
  have y4_2 := hI4.lt 2 rfl
  go_wp2_with fail
  have hI5 := hI4
  clear x4_0 y4_0 x4_1 y4_1 x4_2 y4_2 hI4
  refine start_ (n := 7) (S := Inv w [(g3, .cells #[.int .i64 (sameV ⟨ak, an, au⟩ ⟨bk, bn, bu⟩).k, .int .i64 (sameV ⟨ak, an, au⟩ ⟨bk, bn, bu⟩).n, .string (sameV ⟨ak, an, au⟩ ⟨bk, bn, bu⟩).s] 26 (0, 0)), (w.heap.size + 1, .cells #[.int .i64 bk, .int .i64 bn, .string bu] 24 (0, 0)), (w.heap.size, .cells #[.int .i64 ak, .int .i64 an, .string au] 24 (0, 0))]) (ds := []) #[false, false, false, false, false, false, false] (by kernel_rfl) rfl rfl hI5.drew (fun hI => ?_)
  clear hI5
  generalize World.drew _ = w15 at hI ⊢
  refine take_ (i := 0) (N := (some 23)) (v := ?_) (a' := ?_) #[true, false, false, false, false, false, false] rfl rfl (by kernel_rfl) (fun _ _ _ h => h) (Or.inl ⟨by rfl, ?_⟩) hI ?_ ?_
  rotate_left
  · intro w' h'
    have x := h'.cell 2 rfl
    go_simp
    with_reducible rfl
  rotate_left
  · simp only [Act.put, List.setIfInBounds_toArray, List.set_cons_zero, List.set_cons_succ]
    rfl
  refine take_ (i := 2) (N := (some 25)) (v := ?_) (a' := ?_) #[true, false, true, false, false, false, false] rfl rfl (by kernel_rfl) (fun _ _ _ h => h) (Or.inl ⟨by rfl, ?_⟩) hI ?_ ?_
  rotate_left
  · intro w' h'
    have x := h'.cell 1 rfl
    go_simp
    with_reducible rfl
  rotate_left
  · simp only [Act.put, List.setIfInBounds_toArray, List.set_cons_zero, List.set_cons_succ]
    rfl
  refine join_ (σ := Nat) 1 #[true, true, true, true, true, true, false] (fun g_ => [(24, .agg #[.int .i64 ak, .int .i64 an, .string au]), (26, .agg #[.int .i64 bk, .int .i64 bn, .string bu]), (27, .agg #[.int .i64 (sameV ⟨ak, an, au⟩ ⟨bk, bn, bu⟩).k, .int .i64 (sameV ⟨ak, an, au⟩ ⟨bk, bn, bu⟩).n, .string (sameV ⟨ak, an, au⟩ ⟨bk, bn, bu⟩).s]), (7, .pointer (some ⟨g_, 0, none⟩))]) (fun g_ w' => Inv w [(g3, .cells #[.int .i64 (sameV ⟨ak, an, au⟩ ⟨bk, bn, bu⟩).k, .int .i64 (sameV ⟨ak, an, au⟩ ⟨bk, bn, bu⟩).n, .string (sameV ⟨ak, an, au⟩ ⟨bk, bn, bu⟩).s] 26 (0, 0)), (w.heap.size + 1, .cells #[.int .i64 bk, .int .i64 bn, .string bu] 24 (0, 0)), (w.heap.size, .cells #[.int .i64 ak, .int .i64 an, .string au] 24 (0, 0))] w' ∧ New w [(g3, .cells #[.int .i64 (sameV ⟨ak, an, au⟩ ⟨bk, bn, bu⟩).k, .int .i64 (sameV ⟨ak, an, au⟩ ⟨bk, bn, bu⟩).n, .string (sameV ⟨ak, an, au⟩ ⟨bk, bn, bu⟩).s] 26 (0, 0)), (w.heap.size + 1, .cells #[.int .i64 bk, .int .i64 bn, .string bu] 24 (0, 0)), (w.heap.size, .cells #[.int .i64 ak, .int .i64 an, .string au] 24 (0, 0))] g_ (.cells #[.int .i64 0, .int .i64 0, .string (⟨#[]⟩ : ByteArray)] 26 (0, 0)) w') ?_ ?_
  rotate_left
  · intro hC
    refine two_ (i := 1) (j := 5) (Ni := (some 24)) (Nj := (some 7)) #[true, true, true, false, false, false, false] #[true, false, true, false, false, true, false] rfl rfl rfl rfl (by kernel_rfl) (by decide) (by decide) (fun K hK => ?_) (fun K hK => ?_)
    · skip
      refine goes_ Try.func17 (by kernel_rfl) rfl #[.agg #[.int .i64 ak, .int .i64 an, .string au]] (by rfl) rfl rfl (by (try simp only [List.map_toArray, List.map_cons, List.map_nil]); first | done | rfl) ?_
      refine (toV _ _ _ _).mono ?_
      rintro e w16 ⟨rfl, hb⟩
      refine ⟨_, rfl, ?_⟩
      refine hK.out _ _ (hI.step hb) (fun hI' => ?_)
      clear hK K hb hI
      have hI := hI'
      clear hI'
      refine norm_ (a' := ?_) ?_ ?_
      rotate_left
      · show Act.put _ (some 24) _ = _
        simp only [Act.put, List.setIfInBounds_toArray, List.set_cons_zero, List.set_cons_succ]
        rfl
      refine two_ (i := 3) (j := 5) (Ni := (some 26)) (Nj := (some 7)) #[true, true, true, true, false, false, false] #[true, true, true, false, false, true, false] rfl rfl rfl rfl (by kernel_rfl) (by decide) (by decide) (fun K hK => ?_) (fun K hK => ?_)
      · skip
        refine goes_ Try.func17 (by kernel_rfl) rfl #[.agg #[.int .i64 bk, .int .i64 bn, .string bu]] (by rfl) rfl rfl (by (try simp only [List.map_toArray, List.map_cons, List.map_nil]); first | done | rfl) ?_
        refine (toV _ _ _ _).mono ?_
        rintro e w17 ⟨rfl, hb⟩
        refine ⟨_, rfl, ?_⟩
        refine hK.out _ _ (hI.step hb) (fun hI' => ?_)
        clear hK K hb hI
        have hI := hI'
        clear hI'
        refine norm_ (a' := ?_) ?_ ?_
        rotate_left
        · show Act.put _ (some 26) _ = _
          simp only [Act.put, List.setIfInBounds_toArray, List.set_cons_zero, List.set_cons_succ]
          rfl
        refine two_ (i := 4) (j := 5) (Ni := (some 27)) (Nj := (some 7)) #[true, true, true, true, true, false, false] #[true, true, true, true, false, true, false] rfl rfl rfl rfl (by kernel_rfl) (by decide) (by decide) (fun K hK => ?_) (fun K hK => ?_)
        · skip
          refine goes_ Try.func18 (by kernel_rfl) rfl #[.agg #[.int .i64 ak, .int .i64 an, .string au], .agg #[.int .i64 bk, .int .i64 bn, .string bu]] (by rfl) rfl rfl (by (try simp only [List.map_toArray, List.map_cons, List.map_nil]); first | done | rfl) ?_
          refine (sameI _ _ _ _ _ _ _).mono ?_
          rintro e w18 ⟨rfl, hb⟩
          refine ⟨_, rfl, ?_⟩
          refine hK.out _ _ (hI.step hb) (fun hI' => ?_)
          clear hK K hb hI
          have hI := hI'
          clear hI'
          refine norm_ (a' := ?_) ?_ ?_
          rotate_left
          · show Act.put _ (some 27) _ = _
            simp only [Act.put, List.setIfInBounds_toArray, List.set_cons_zero, List.set_cons_succ]
            rfl
          refine one_ (i := 5) (N := (some 7)) #[true, true, true, true, true, true, false] rfl rfl (by kernel_rfl) (by decide) (fun K hK => ?_)
          refine value_ (w1 := ?_) (v := ?_) (by rfl) rfl ?_ ?_
          rotate_left 2
          · go_simp
            constructor
            · rfl
            · rfl
          have hN := New.made hI (.cells #[.int .i64 0, .int .i64 0, .string (⟨#[]⟩ : ByteArray)] 26 (0, 0))
          refine hK.out _ _ (hI.alloc _) (fun hI' => ?_)
          clear hK K hI
          have hI := hI'
          clear hI'
          refine norm_ (a' := ?_) ?_ ?_
          rotate_left
          · show Act.put _ (some 7) _ = _
            simp only [Act.put, List.setIfInBounds_toArray, List.set_cons_zero, List.set_cons_succ]
            rfl
          exact norm_ (by simp only [putAll, Act.put, List.setIfInBounds_toArray, List.set_cons_zero, List.set_cons_succ]) (hC _ _ ⟨hI, hN⟩)
        · skip
          refine value_ (w1 := ?_) (v := ?_) (by rfl) rfl ?_ ?_
          rotate_left 2
          · go_simp
            constructor
            · rfl
            · rfl
          have hN := New.made hI (.cells #[.int .i64 0, .int .i64 0, .string (⟨#[]⟩ : ByteArray)] 26 (0, 0))
          refine hK.out _ _ (hI.alloc _) (fun hI' => ?_)
          clear hK K hI
          have hI := hI'
          clear hI'
          refine norm_ (a' := ?_) ?_ ?_
          rotate_left
          · show Act.put _ (some 7) _ = _
            simp only [Act.put, List.setIfInBounds_toArray, List.set_cons_zero, List.set_cons_succ]
            rfl
          refine one_ (i := 4) (N := (some 27)) #[true, true, true, true, true, true, false] rfl rfl (by kernel_rfl) (by decide) (fun K hK => ?_)
          refine goes_ Try.func18 (by kernel_rfl) rfl #[.agg #[.int .i64 ak, .int .i64 an, .string au], .agg #[.int .i64 bk, .int .i64 bn, .string bu]] (by rfl) rfl rfl (by (try simp only [List.map_toArray, List.map_cons, List.map_nil]); first | done | rfl) ?_
          refine (sameI _ _ _ _ _ _ _).mono ?_
          rintro e w19 ⟨rfl, hb⟩
          refine ⟨_, rfl, ?_⟩
          replace hN := hN.step hb
          refine hK.out _ _ (hI.step hb) (fun hI' => ?_)
          clear hK K hb hI
          have hI := hI'
          clear hI'
          refine norm_ (a' := ?_) ?_ ?_
          rotate_left
          · show Act.put _ (some 27) _ = _
            simp only [Act.put, List.setIfInBounds_toArray, List.set_cons_zero, List.set_cons_succ]
            rfl
          exact norm_ (by simp only [putAll, Act.put, List.setIfInBounds_toArray, List.set_cons_zero, List.set_cons_succ]) (hC _ _ ⟨hI, hN⟩)
      · skip
        refine value_ (w1 := ?_) (v := ?_) (by rfl) rfl ?_ ?_
        rotate_left 2
        · go_simp
          constructor
          · rfl
          · rfl
        have hN := New.made hI (.cells #[.int .i64 0, .int .i64 0, .string (⟨#[]⟩ : ByteArray)] 26 (0, 0))
        refine hK.out _ _ (hI.alloc _) (fun hI' => ?_)
        clear hK K hI
        have hI := hI'
        clear hI'
        refine norm_ (a' := ?_) ?_ ?_
        rotate_left
        · show Act.put _ (some 7) _ = _
          simp only [Act.put, List.setIfInBounds_toArray, List.set_cons_zero, List.set_cons_succ]
          rfl
        refine one_ (i := 3) (N := (some 26)) #[true, true, true, true, false, true, false] rfl rfl (by kernel_rfl) (by decide) (fun K hK => ?_)
        refine goes_ Try.func17 (by kernel_rfl) rfl #[.agg #[.int .i64 bk, .int .i64 bn, .string bu]] (by rfl) rfl rfl (by (try simp only [List.map_toArray, List.map_cons, List.map_nil]); first | done | rfl) ?_
        refine (toV _ _ _ _).mono ?_
        rintro e w20 ⟨rfl, hb⟩
        refine ⟨_, rfl, ?_⟩
        replace hN := hN.step hb
        refine hK.out _ _ (hI.step hb) (fun hI' => ?_)
        clear hK K hb hI
        have hI := hI'
        clear hI'
        refine norm_ (a' := ?_) ?_ ?_
        rotate_left
        · show Act.put _ (some 26) _ = _
          simp only [Act.put, List.setIfInBounds_toArray, List.set_cons_zero, List.set_cons_succ]
          rfl
        refine one_ (i := 4) (N := (some 27)) #[true, true, true, true, true, true, false] rfl rfl (by kernel_rfl) (by decide) (fun K hK => ?_)
        refine goes_ Try.func18 (by kernel_rfl) rfl #[.agg #[.int .i64 ak, .int .i64 an, .string au], .agg #[.int .i64 bk, .int .i64 bn, .string bu]] (by rfl) rfl rfl (by (try simp only [List.map_toArray, List.map_cons, List.map_nil]); first | done | rfl) ?_
        refine (sameI _ _ _ _ _ _ _).mono ?_
        rintro e w21 ⟨rfl, hb⟩
        refine ⟨_, rfl, ?_⟩
        replace hN := hN.step hb
        refine hK.out _ _ (hI.step hb) (fun hI' => ?_)
        clear hK K hb hI
        have hI := hI'
        clear hI'
        refine norm_ (a' := ?_) ?_ ?_
        rotate_left
        · show Act.put _ (some 27) _ = _
          simp only [Act.put, List.setIfInBounds_toArray, List.set_cons_zero, List.set_cons_succ]
          rfl
        exact norm_ (by simp only [putAll, Act.put, List.setIfInBounds_toArray, List.set_cons_zero, List.set_cons_succ]) (hC _ _ ⟨hI, hN⟩)
    · skip
      refine value_ (w1 := ?_) (v := ?_) (by rfl) rfl ?_ ?_
      rotate_left 2
      · go_simp
        constructor
        · rfl
        · rfl
      have hN := New.made hI (.cells #[.int .i64 0, .int .i64 0, .string (⟨#[]⟩ : ByteArray)] 26 (0, 0))
      refine hK.out _ _ (hI.alloc _) (fun hI' => ?_)
      clear hK K hI
      have hI := hI'
      clear hI'
      refine norm_ (a' := ?_) ?_ ?_
      rotate_left
      · show Act.put _ (some 7) _ = _
        simp only [Act.put, List.setIfInBounds_toArray, List.set_cons_zero, List.set_cons_succ]
        rfl
      refine one_ (i := 1) (N := (some 24)) #[true, true, true, false, false, true, false] rfl rfl (by kernel_rfl) (by decide) (fun K hK => ?_)
      refine goes_ Try.func17 (by kernel_rfl) rfl #[.agg #[.int .i64 ak, .int .i64 an, .string au]] (by rfl) rfl rfl (by (try simp only [List.map_toArray, List.map_cons, List.map_nil]); first | done | rfl) ?_
      refine (toV _ _ _ _).mono ?_
      rintro e w22 ⟨rfl, hb⟩
      refine ⟨_, rfl, ?_⟩
      replace hN := hN.step hb
      refine hK.out _ _ (hI.step hb) (fun hI' => ?_)
      clear hK K hb hI
      have hI := hI'
      clear hI'
      refine norm_ (a' := ?_) ?_ ?_
      rotate_left
      · show Act.put _ (some 24) _ = _
        simp only [Act.put, List.setIfInBounds_toArray, List.set_cons_zero, List.set_cons_succ]
        rfl
      refine one_ (i := 3) (N := (some 26)) #[true, true, true, true, false, true, false] rfl rfl (by kernel_rfl) (by decide) (fun K hK => ?_)
      refine goes_ Try.func17 (by kernel_rfl) rfl #[.agg #[.int .i64 bk, .int .i64 bn, .string bu]] (by rfl) rfl rfl (by (try simp only [List.map_toArray, List.map_cons, List.map_nil]); first | done | rfl) ?_
      refine (toV _ _ _ _).mono ?_
      rintro e w23 ⟨rfl, hb⟩
      refine ⟨_, rfl, ?_⟩
      replace hN := hN.step hb
      refine hK.out _ _ (hI.step hb) (fun hI' => ?_)
      clear hK K hb hI
      have hI := hI'
      clear hI'
      refine norm_ (a' := ?_) ?_ ?_
      rotate_left
      · show Act.put _ (some 26) _ = _
        simp only [Act.put, List.setIfInBounds_toArray, List.set_cons_zero, List.set_cons_succ]
        rfl
      refine one_ (i := 4) (N := (some 27)) #[true, true, true, true, true, true, false] rfl rfl (by kernel_rfl) (by decide) (fun K hK => ?_)
      refine goes_ Try.func18 (by kernel_rfl) rfl #[.agg #[.int .i64 ak, .int .i64 an, .string au], .agg #[.int .i64 bk, .int .i64 bn, .string bu]] (by rfl) rfl rfl (by (try simp only [List.map_toArray, List.map_cons, List.map_nil]); first | done | rfl) ?_
      refine (sameI _ _ _ _ _ _ _).mono ?_
      rintro e w24 ⟨rfl, hb⟩
      refine ⟨_, rfl, ?_⟩
      replace hN := hN.step hb
      refine hK.out _ _ (hI.step hb) (fun hI' => ?_)
      clear hK K hb hI
      have hI := hI'
      clear hI'
      refine norm_ (a' := ?_) ?_ ?_
      rotate_left
      · show Act.put _ (some 27) _ = _
        simp only [Act.put, List.setIfInBounds_toArray, List.set_cons_zero, List.set_cons_succ]
        rfl
      exact norm_ (by simp only [putAll, Act.put, List.setIfInBounds_toArray, List.set_cons_zero, List.set_cons_succ]) (hC _ _ ⟨hI, hN⟩)
  rintro g5 w25 ⟨hI', hN⟩
  clear hI
  have hI := hI'
  clear hI'
  refine norm_ (a' := ?_) ?_ ?_
  rotate_left
  · simp only [putAll, Act.put, List.setIfInBounds_toArray, List.set_cons_zero, List.set_cons_succ]
    rfl
  refine one_ (i := 6) (N := none) #[true, true, true, true, true, true, true] rfl rfl (by kernel_rfl) (by decide) (fun K hK => ?_)
  refine skip_ (w1 := ?_) (by rfl) rfl ?_ ?_
  rotate_left
  · have c := hN.cell
    have f := hN.free
    go_simp
    rfl
  refine hK.out _ _ (New.inv3 hI hN _ _ _) (fun hI' => ?_)
  clear hK K
  have hN' := hN.put3 (u0 := .int .i64 (sameV ⟨ak, an, au⟩ ⟨bk, bn, bu⟩).k) (u1 := .int .i64 (sameV ⟨ak, an, au⟩ ⟨bk, bn, bu⟩).n) (u2 := .string (sameV ⟨ak, an, au⟩ ⟨bk, bn, bu⟩).s)
  have hI2 := hI'.cons hN'.blk
  clear hI hI' hN hN'
  have hI := hI2
  clear hI2
  refine done_ (by kernel_rfl) ?_
  generalize (((w25.setCell ⟨g5, 0, none⟩ (.int .i64 (sameV ⟨ak, an, au⟩ ⟨bk, bn, bu⟩).k)).setCell ⟨g5, 1, none⟩ (.int .i64 (sameV ⟨ak, an, au⟩ ⟨bk, bn, bu⟩).n)).setCell ⟨g5, 2, none⟩ (.string (sameV ⟨ak, an, au⟩ ⟨bk, bn, bu⟩).s)) = w26 at hI ⊢
  have hI6 := hI
  clear hI
  have x6_0 := hI6.cell 0 rfl
  have y6_0 := hI6.lt 0 rfl
  have x6_1 := hI6.cell 1 rfl
  have y6_1 := hI6.lt 1 rfl
  have x6_2 := hI6.cell 2 rfl
  have y6_2 := hI6.lt 2 rfl
  have x6_3 := hI6.cell 3 rfl
  have y6_3 := hI6.lt 3 rfl
  go_wp2_with fail
  refine (eqV _ _ _ _).mono ?_
  rintro e w27 ⟨rfl, hb27⟩
  have hI7 := hI6.step hb27
  clear hb27 x6_0 y6_0 x6_1 y6_1 x6_2 y6_2 x6_3 y6_3 hI6
  have x7_0 := hI7.cell 0 rfl
  have y7_0 := hI7.lt 0 rfl
  have x7_1 := hI7.cell 1 rfl
  have y7_1 := hI7.lt 1 rfl
  have x7_2 := hI7.cell 2 rfl
  have y7_2 := hI7.lt 2 rfl
  have x7_3 := hI7.cell 3 rfl
  have y7_3 := hI7.lt 3 rfl
  go_wp2
  go_ret
  exact ⟨rfl, hI7.bel⟩
set_option maxHeartbeats 1000000 in
set_option maxRecDepth 100000 in
theorem lessLaw (ak an : Int) (au : ByteArray) (bk bn : Int) (bu : ByteArray) (w : World) (ha1 : (Lit.int .i64 ak).wf = true) (ha2 : (Lit.int .i64 an).wf = true) (hma : au.size ≤ maxLen) (hb1 : (Lit.int .i64 bk).wf = true) (hb2 : (Lit.int .i64 bn).wf = true) (hmb : bu.size ≤ maxLen) : Calls Try.prog 7 #[.agg #[.int .i64 ak, .int .i64 an, .string au], .agg #[.int .i64 bk, .int .i64 bn, .string bu]] w fun e w' => e = .returned (.bool true) ∧ Below w.heap.size w w' := by
  clear ha1 ha2 hb1 hb2
  by_cases hsa : (au.size : Int) ≤ 1048576
  rotate_left
  · have hs := hsa
    go_enter Try.func7, Try.ntmps7
    go_wp2_with fail
    refine (szV_no ak an au (1048576) _ hma (by omega) (by omega) (by omega)).mono ?_
    rintro e w1 ⟨rfl, hb1⟩
    have hI1 := (((Inv.start w).made _ (w.heap.size) (by simp)).made _ (w.heap.size + 1) (by simp)).step hb1
    clear hb1
    have x1_0 := hI1.cell 0 rfl
    have y1_0 := hI1.lt 0 rfl
    have x1_1 := hI1.cell 1 rfl
    have y1_1 := hI1.lt 1 rfl
    go_wp2
    go_ret
    exact ⟨rfl, hI1.bel⟩
  have ga : 0 ≤ 1048576 - (au.size : Int) := by omega
  by_cases hsb : (bu.size : Int) ≤ 1048576 - (au.size : Int)
  rotate_left
  · have hs := hsb
    go_enter Try.func7, Try.ntmps7
    go_wp2_with fail
    refine (szV_ok ak an au (1048576) _ hma (by omega) (by omega) (by omega)).mono ?_
    rintro e w1 ⟨rfl, hb1⟩
    have hI1 := (((Inv.start w).made _ (w.heap.size) (by simp)).made _ (w.heap.size + 1) (by simp)).step hb1
    clear hb1
    have x1_0 := hI1.cell 0 rfl
    have y1_0 := hI1.lt 0 rfl
    have x1_1 := hI1.cell 1 rfl
    have y1_1 := hI1.lt 1 rfl
    go_wp2_with fail
    refine (szV_no bk bn bu (1048576 - (au.size : Int)) _ hmb (by omega) (by omega) (by omega)).mono ?_
    rintro e w2 ⟨rfl, hb2⟩
    have hI2 := hI1.step hb2
    clear hb2 x1_0 y1_0 x1_1 y1_1 hI1
    have x2_0 := hI2.cell 0 rfl
    have y2_0 := hI2.lt 0 rfl
    have x2_1 := hI2.cell 1 rfl
    have y2_1 := hI2.lt 1 rfl
    go_wp2
    go_ret
    exact ⟨rfl, hI2.bel⟩
  have gb : 0 ≤ 1048576 - (au.size : Int) - (bu.size : Int) := by omega
  go_enter Try.func7, Try.ntmps7
  go_wp2_with fail
  refine (szV_ok ak an au (1048576) _ hma (by omega) (by omega) (by omega)).mono ?_
  rintro e w1 ⟨rfl, hb1⟩
  have hI1 := (((Inv.start w).made _ (w.heap.size) (by simp)).made _ (w.heap.size + 1) (by simp)).step hb1
  clear hb1
  have x1_0 := hI1.cell 0 rfl
  have y1_0 := hI1.lt 0 rfl
  have x1_1 := hI1.cell 1 rfl
  have y1_1 := hI1.lt 1 rfl
  go_wp2_with fail
  refine (szV_ok bk bn bu (1048576 - (au.size : Int)) _ hmb (by omega) (by omega) (by omega)).mono ?_
  rintro e w2 ⟨rfl, hb2⟩
  have hI2 := hI1.step hb2
  clear hb2 x1_0 y1_0 x1_1 y1_1 hI1
  have x2_0 := hI2.cell 0 rfl
  have y2_0 := hI2.lt 0 rfl
  have x2_1 := hI2.cell 1 rfl
  have y2_1 := hI2.lt 1 rfl
  go_wp2_with fail
  have hI3 := hI2
  clear x2_0 y2_0 x2_1 y2_1 hI2
  refine start_ (n := 11) (S := Inv w [(w.heap.size + 1, .cells #[.int .i64 bk, .int .i64 bn, .string bu] 24 (0, 0)), (w.heap.size, .cells #[.int .i64 ak, .int .i64 an, .string au] 24 (0, 0))]) (ds := []) #[false, false, false, false, false, false, false, false, false, false, false] (by kernel_rfl) rfl rfl hI3.drew (fun hI => ?_)
  clear hI3
  generalize World.drew _ = w3 at hI ⊢
  refine take_ (i := 0) (N := (some 21)) (v := ?_) (a' := ?_) #[true, false, false, false, false, false, false, false, false, false, false] rfl rfl (by kernel_rfl) (fun _ _ _ h => h) (Or.inl ⟨by rfl, ?_⟩) hI ?_ ?_
  rotate_left
  · intro w' h'
    have x := h'.cell 1 rfl
    go_simp
    with_reducible rfl
  rotate_left
  · simp only [Act.put, List.setIfInBounds_toArray, List.set_cons_zero, List.set_cons_succ]
    rfl
  refine take_ (i := 2) (N := (some 23)) (v := ?_) (a' := ?_) #[true, false, true, false, false, false, false, false, false, false, false] rfl rfl (by kernel_rfl) (fun _ _ _ h => h) (Or.inl ⟨by rfl, ?_⟩) hI ?_ ?_
  rotate_left
  · intro w' h'
    have x := h'.cell 0 rfl
    go_simp
    with_reducible rfl
  rotate_left
  · simp only [Act.put, List.setIfInBounds_toArray, List.set_cons_zero, List.set_cons_succ]
    rfl
  refine join_ (σ := Nat) 2 #[true, true, true, true, true, true, true, true, true, false, false] (fun g_ => [(22, .agg #[.int .i64 ak, .int .i64 an, .string au]), (24, .agg #[.int .i64 bk, .int .i64 bn, .string bu]), (25, .tuple #[.agg #[.int .i64 (lessV ⟨ak, an, au⟩ ⟨bk, bn, bu⟩).k, .int .i64 (lessV ⟨ak, an, au⟩ ⟨bk, bn, bu⟩).n, .string (lessV ⟨ak, an, au⟩ ⟨bk, bn, bu⟩).s], .int .i64 (lessT ⟨ak, an, au⟩ ⟨bk, bn, bu⟩)]), (20, .tuple #[.agg #[.int .i64 (lessV ⟨ak, an, au⟩ ⟨bk, bn, bu⟩).k, .int .i64 (lessV ⟨ak, an, au⟩ ⟨bk, bn, bu⟩).n, .string (lessV ⟨ak, an, au⟩ ⟨bk, bn, bu⟩).s], .int .i64 (lessT ⟨ak, an, au⟩ ⟨bk, bn, bu⟩)]), (26, .agg #[.int .i64 (lessV ⟨ak, an, au⟩ ⟨bk, bn, bu⟩).k, .int .i64 (lessV ⟨ak, an, au⟩ ⟨bk, bn, bu⟩).n, .string (lessV ⟨ak, an, au⟩ ⟨bk, bn, bu⟩).s]), (27, .int .i64 (lessT ⟨ak, an, au⟩ ⟨bk, bn, bu⟩)), (6, .pointer (some ⟨g_, 0, none⟩))]) (fun g_ w' => Inv w [(w.heap.size + 1, .cells #[.int .i64 bk, .int .i64 bn, .string bu] 24 (0, 0)), (w.heap.size, .cells #[.int .i64 ak, .int .i64 an, .string au] 24 (0, 0))] w' ∧ New w [(w.heap.size + 1, .cells #[.int .i64 bk, .int .i64 bn, .string bu] 24 (0, 0)), (w.heap.size, .cells #[.int .i64 ak, .int .i64 an, .string au] 24 (0, 0))] g_ (.cells #[.int .i64 0, .int .i64 0, .string (⟨#[]⟩ : ByteArray)] 26 (0, 0)) w') ?_ ?_
  rotate_left
  · intro hC
    refine two_ (i := 1) (j := 8) (Ni := (some 22)) (Nj := (some 6)) #[true, true, true, false, false, false, false, false, false, false, false] #[true, false, true, false, false, false, false, false, true, false, false] rfl rfl rfl rfl (by kernel_rfl) (by decide) (by decide) (fun K hK => ?_) (fun K hK => ?_)
    · skip
      refine goes_ Try.func17 (by kernel_rfl) rfl #[.agg #[.int .i64 ak, .int .i64 an, .string au]] (by rfl) rfl rfl (by (try simp only [List.map_toArray, List.map_cons, List.map_nil]); first | done | rfl) ?_
      refine (toV _ _ _ _).mono ?_
      rintro e w4 ⟨rfl, hb⟩
      refine ⟨_, rfl, ?_⟩
      refine hK.out _ _ (hI.step hb) (fun hI' => ?_)
      clear hK K hb hI
      have hI := hI'
      clear hI'
      refine norm_ (a' := ?_) ?_ ?_
      rotate_left
      · show Act.put _ (some 22) _ = _
        simp only [Act.put, List.setIfInBounds_toArray, List.set_cons_zero, List.set_cons_succ]
        rfl
      refine two_ (i := 3) (j := 8) (Ni := (some 24)) (Nj := (some 6)) #[true, true, true, true, false, false, false, false, false, false, false] #[true, true, true, false, false, false, false, false, true, false, false] rfl rfl rfl rfl (by kernel_rfl) (by decide) (by decide) (fun K hK => ?_) (fun K hK => ?_)
      · skip
        refine goes_ Try.func17 (by kernel_rfl) rfl #[.agg #[.int .i64 bk, .int .i64 bn, .string bu]] (by rfl) rfl rfl (by (try simp only [List.map_toArray, List.map_cons, List.map_nil]); first | done | rfl) ?_
        refine (toV _ _ _ _).mono ?_
        rintro e w5 ⟨rfl, hb⟩
        refine ⟨_, rfl, ?_⟩
        refine hK.out _ _ (hI.step hb) (fun hI' => ?_)
        clear hK K hb hI
        have hI := hI'
        clear hI'
        refine norm_ (a' := ?_) ?_ ?_
        rotate_left
        · show Act.put _ (some 24) _ = _
          simp only [Act.put, List.setIfInBounds_toArray, List.set_cons_zero, List.set_cons_succ]
          rfl
        refine two_ (i := 4) (j := 8) (Ni := (some 25)) (Nj := (some 6)) #[true, true, true, true, true, false, false, false, false, false, false] #[true, true, true, true, false, false, false, false, true, false, false] rfl rfl rfl rfl (by kernel_rfl) (by decide) (by decide) (fun K hK => ?_) (fun K hK => ?_)
        · skip
          refine goes_ Try.func28 (by kernel_rfl) rfl #[.agg #[.int .i64 ak, .int .i64 an, .string au], .agg #[.int .i64 bk, .int .i64 bn, .string bu]] (by rfl) rfl rfl (by (try simp only [List.map_toArray, List.map_cons, List.map_nil]); first | done | rfl) ?_
          refine (less04 _ _ _ _ _ _ _).mono ?_
          rintro e w6 ⟨rfl, hb⟩
          refine ⟨_, rfl, ?_⟩
          refine hK.out _ _ (hI.step hb) (fun hI' => ?_)
          clear hK K hb hI
          have hI := hI'
          clear hI'
          refine norm_ (a' := ?_) ?_ ?_
          rotate_left
          · show Act.put _ (some 25) _ = _
            simp only [Act.put, List.setIfInBounds_toArray, List.set_cons_zero, List.set_cons_succ]
            rfl
          refine pure_ (i := 5) (N := (some 20)) (v := ?_) (a' := ?_) #[true, true, true, true, true, true, false, false, false, false, false] rfl rfl (by kernel_rfl) (fun _ _ _ h => h) (Or.inl ⟨by rfl, ?_⟩) ?_ ?_
          rotate_left
          · intro w'
            go_simp
            with_reducible rfl
          rotate_left
          · simp only [Act.put, List.setIfInBounds_toArray, List.set_cons_zero, List.set_cons_succ]
            rfl
          refine pure_ (i := 6) (N := (some 26)) (v := ?_) (a' := ?_) #[true, true, true, true, true, true, true, false, false, false, false] rfl rfl (by kernel_rfl) (fun _ _ _ h => h) (Or.inl ⟨by rfl, ?_⟩) ?_ ?_
          rotate_left
          · intro w'
            go_simp
            with_reducible rfl
          rotate_left
          · simp only [Act.put, List.setIfInBounds_toArray, List.set_cons_zero, List.set_cons_succ]
            rfl
          refine pure_ (i := 7) (N := (some 27)) (v := ?_) (a' := ?_) #[true, true, true, true, true, true, true, true, false, false, false] rfl rfl (by kernel_rfl) (fun _ _ _ h => h) (Or.inl ⟨by rfl, ?_⟩) ?_ ?_
          rotate_left
          · intro w'
            go_simp
            with_reducible rfl
          rotate_left
          · simp only [Act.put, List.setIfInBounds_toArray, List.set_cons_zero, List.set_cons_succ]
            rfl
          refine one_ (i := 8) (N := (some 6)) #[true, true, true, true, true, true, true, true, true, false, false] rfl rfl (by kernel_rfl) (by decide) (fun K hK => ?_)
          refine value_ (w1 := ?_) (v := ?_) (by rfl) rfl ?_ ?_
          rotate_left 2
          · go_simp
            constructor
            · rfl
            · rfl
          have hN := New.made hI (.cells #[.int .i64 0, .int .i64 0, .string (⟨#[]⟩ : ByteArray)] 26 (0, 0))
          refine hK.out _ _ (hI.alloc _) (fun hI' => ?_)
          clear hK K hI
          have hI := hI'
          clear hI'
          refine norm_ (a' := ?_) ?_ ?_
          rotate_left
          · show Act.put _ (some 6) _ = _
            simp only [Act.put, List.setIfInBounds_toArray, List.set_cons_zero, List.set_cons_succ]
            rfl
          exact norm_ (by simp only [putAll, Act.put, List.setIfInBounds_toArray, List.set_cons_zero, List.set_cons_succ]) (hC _ _ ⟨hI, hN⟩)
        · skip
          refine value_ (w1 := ?_) (v := ?_) (by rfl) rfl ?_ ?_
          rotate_left 2
          · go_simp
            constructor
            · rfl
            · rfl
          have hN := New.made hI (.cells #[.int .i64 0, .int .i64 0, .string (⟨#[]⟩ : ByteArray)] 26 (0, 0))
          refine hK.out _ _ (hI.alloc _) (fun hI' => ?_)
          clear hK K hI
          have hI := hI'
          clear hI'
          refine norm_ (a' := ?_) ?_ ?_
          rotate_left
          · show Act.put _ (some 6) _ = _
            simp only [Act.put, List.setIfInBounds_toArray, List.set_cons_zero, List.set_cons_succ]
            rfl
          refine one_ (i := 4) (N := (some 25)) #[true, true, true, true, true, false, false, false, true, false, false] rfl rfl (by kernel_rfl) (by decide) (fun K hK => ?_)
          refine goes_ Try.func28 (by kernel_rfl) rfl #[.agg #[.int .i64 ak, .int .i64 an, .string au], .agg #[.int .i64 bk, .int .i64 bn, .string bu]] (by rfl) rfl rfl (by (try simp only [List.map_toArray, List.map_cons, List.map_nil]); first | done | rfl) ?_
          refine (less04 _ _ _ _ _ _ _).mono ?_
          rintro e w7 ⟨rfl, hb⟩
          refine ⟨_, rfl, ?_⟩
          replace hN := hN.step hb
          refine hK.out _ _ (hI.step hb) (fun hI' => ?_)
          clear hK K hb hI
          have hI := hI'
          clear hI'
          refine norm_ (a' := ?_) ?_ ?_
          rotate_left
          · show Act.put _ (some 25) _ = _
            simp only [Act.put, List.setIfInBounds_toArray, List.set_cons_zero, List.set_cons_succ]
            rfl
          refine pure_ (i := 5) (N := (some 20)) (v := ?_) (a' := ?_) #[true, true, true, true, true, true, false, false, true, false, false] rfl rfl (by kernel_rfl) (fun _ _ _ h => h) (Or.inl ⟨by rfl, ?_⟩) ?_ ?_
          rotate_left
          · intro w'
            go_simp
            with_reducible rfl
          rotate_left
          · simp only [Act.put, List.setIfInBounds_toArray, List.set_cons_zero, List.set_cons_succ]
            rfl
          refine pure_ (i := 6) (N := (some 26)) (v := ?_) (a' := ?_) #[true, true, true, true, true, true, true, false, true, false, false] rfl rfl (by kernel_rfl) (fun _ _ _ h => h) (Or.inl ⟨by rfl, ?_⟩) ?_ ?_
          rotate_left
          · intro w'
            go_simp
            with_reducible rfl
          rotate_left
          · simp only [Act.put, List.setIfInBounds_toArray, List.set_cons_zero, List.set_cons_succ]
            rfl
          refine pure_ (i := 7) (N := (some 27)) (v := ?_) (a' := ?_) #[true, true, true, true, true, true, true, true, true, false, false] rfl rfl (by kernel_rfl) (fun _ _ _ h => h) (Or.inl ⟨by rfl, ?_⟩) ?_ ?_
          rotate_left
          · intro w'
            go_simp
            with_reducible rfl
          rotate_left
          · simp only [Act.put, List.setIfInBounds_toArray, List.set_cons_zero, List.set_cons_succ]
            rfl
          exact norm_ (by simp only [putAll, Act.put, List.setIfInBounds_toArray, List.set_cons_zero, List.set_cons_succ]) (hC _ _ ⟨hI, hN⟩)
      · skip
        refine value_ (w1 := ?_) (v := ?_) (by rfl) rfl ?_ ?_
        rotate_left 2
        · go_simp
          constructor
          · rfl
          · rfl
        have hN := New.made hI (.cells #[.int .i64 0, .int .i64 0, .string (⟨#[]⟩ : ByteArray)] 26 (0, 0))
        refine hK.out _ _ (hI.alloc _) (fun hI' => ?_)
        clear hK K hI
        have hI := hI'
        clear hI'
        refine norm_ (a' := ?_) ?_ ?_
        rotate_left
        · show Act.put _ (some 6) _ = _
          simp only [Act.put, List.setIfInBounds_toArray, List.set_cons_zero, List.set_cons_succ]
          rfl
        refine one_ (i := 3) (N := (some 24)) #[true, true, true, true, false, false, false, false, true, false, false] rfl rfl (by kernel_rfl) (by decide) (fun K hK => ?_)
        refine goes_ Try.func17 (by kernel_rfl) rfl #[.agg #[.int .i64 bk, .int .i64 bn, .string bu]] (by rfl) rfl rfl (by (try simp only [List.map_toArray, List.map_cons, List.map_nil]); first | done | rfl) ?_
        refine (toV _ _ _ _).mono ?_
        rintro e w8 ⟨rfl, hb⟩
        refine ⟨_, rfl, ?_⟩
        replace hN := hN.step hb
        refine hK.out _ _ (hI.step hb) (fun hI' => ?_)
        clear hK K hb hI
        have hI := hI'
        clear hI'
        refine norm_ (a' := ?_) ?_ ?_
        rotate_left
        · show Act.put _ (some 24) _ = _
          simp only [Act.put, List.setIfInBounds_toArray, List.set_cons_zero, List.set_cons_succ]
          rfl
        refine one_ (i := 4) (N := (some 25)) #[true, true, true, true, true, false, false, false, true, false, false] rfl rfl (by kernel_rfl) (by decide) (fun K hK => ?_)
        refine goes_ Try.func28 (by kernel_rfl) rfl #[.agg #[.int .i64 ak, .int .i64 an, .string au], .agg #[.int .i64 bk, .int .i64 bn, .string bu]] (by rfl) rfl rfl (by (try simp only [List.map_toArray, List.map_cons, List.map_nil]); first | done | rfl) ?_
        refine (less04 _ _ _ _ _ _ _).mono ?_
        rintro e w9 ⟨rfl, hb⟩
        refine ⟨_, rfl, ?_⟩
        replace hN := hN.step hb
        refine hK.out _ _ (hI.step hb) (fun hI' => ?_)
        clear hK K hb hI
        have hI := hI'
        clear hI'
        refine norm_ (a' := ?_) ?_ ?_
        rotate_left
        · show Act.put _ (some 25) _ = _
          simp only [Act.put, List.setIfInBounds_toArray, List.set_cons_zero, List.set_cons_succ]
          rfl
        refine pure_ (i := 5) (N := (some 20)) (v := ?_) (a' := ?_) #[true, true, true, true, true, true, false, false, true, false, false] rfl rfl (by kernel_rfl) (fun _ _ _ h => h) (Or.inl ⟨by rfl, ?_⟩) ?_ ?_
        rotate_left
        · intro w'
          go_simp
          with_reducible rfl
        rotate_left
        · simp only [Act.put, List.setIfInBounds_toArray, List.set_cons_zero, List.set_cons_succ]
          rfl
        refine pure_ (i := 6) (N := (some 26)) (v := ?_) (a' := ?_) #[true, true, true, true, true, true, true, false, true, false, false] rfl rfl (by kernel_rfl) (fun _ _ _ h => h) (Or.inl ⟨by rfl, ?_⟩) ?_ ?_
        rotate_left
        · intro w'
          go_simp
          with_reducible rfl
        rotate_left
        · simp only [Act.put, List.setIfInBounds_toArray, List.set_cons_zero, List.set_cons_succ]
          rfl
        refine pure_ (i := 7) (N := (some 27)) (v := ?_) (a' := ?_) #[true, true, true, true, true, true, true, true, true, false, false] rfl rfl (by kernel_rfl) (fun _ _ _ h => h) (Or.inl ⟨by rfl, ?_⟩) ?_ ?_
        rotate_left
        · intro w'
          go_simp
          with_reducible rfl
        rotate_left
        · simp only [Act.put, List.setIfInBounds_toArray, List.set_cons_zero, List.set_cons_succ]
          rfl
        exact norm_ (by simp only [putAll, Act.put, List.setIfInBounds_toArray, List.set_cons_zero, List.set_cons_succ]) (hC _ _ ⟨hI, hN⟩)
    · skip
      refine value_ (w1 := ?_) (v := ?_) (by rfl) rfl ?_ ?_
      rotate_left 2
      · go_simp
        constructor
        · rfl
        · rfl
      have hN := New.made hI (.cells #[.int .i64 0, .int .i64 0, .string (⟨#[]⟩ : ByteArray)] 26 (0, 0))
      refine hK.out _ _ (hI.alloc _) (fun hI' => ?_)
      clear hK K hI
      have hI := hI'
      clear hI'
      refine norm_ (a' := ?_) ?_ ?_
      rotate_left
      · show Act.put _ (some 6) _ = _
        simp only [Act.put, List.setIfInBounds_toArray, List.set_cons_zero, List.set_cons_succ]
        rfl
      refine one_ (i := 1) (N := (some 22)) #[true, true, true, false, false, false, false, false, true, false, false] rfl rfl (by kernel_rfl) (by decide) (fun K hK => ?_)
      refine goes_ Try.func17 (by kernel_rfl) rfl #[.agg #[.int .i64 ak, .int .i64 an, .string au]] (by rfl) rfl rfl (by (try simp only [List.map_toArray, List.map_cons, List.map_nil]); first | done | rfl) ?_
      refine (toV _ _ _ _).mono ?_
      rintro e w10 ⟨rfl, hb⟩
      refine ⟨_, rfl, ?_⟩
      replace hN := hN.step hb
      refine hK.out _ _ (hI.step hb) (fun hI' => ?_)
      clear hK K hb hI
      have hI := hI'
      clear hI'
      refine norm_ (a' := ?_) ?_ ?_
      rotate_left
      · show Act.put _ (some 22) _ = _
        simp only [Act.put, List.setIfInBounds_toArray, List.set_cons_zero, List.set_cons_succ]
        rfl
      refine one_ (i := 3) (N := (some 24)) #[true, true, true, true, false, false, false, false, true, false, false] rfl rfl (by kernel_rfl) (by decide) (fun K hK => ?_)
      refine goes_ Try.func17 (by kernel_rfl) rfl #[.agg #[.int .i64 bk, .int .i64 bn, .string bu]] (by rfl) rfl rfl (by (try simp only [List.map_toArray, List.map_cons, List.map_nil]); first | done | rfl) ?_
      refine (toV _ _ _ _).mono ?_
      rintro e w11 ⟨rfl, hb⟩
      refine ⟨_, rfl, ?_⟩
      replace hN := hN.step hb
      refine hK.out _ _ (hI.step hb) (fun hI' => ?_)
      clear hK K hb hI
      have hI := hI'
      clear hI'
      refine norm_ (a' := ?_) ?_ ?_
      rotate_left
      · show Act.put _ (some 24) _ = _
        simp only [Act.put, List.setIfInBounds_toArray, List.set_cons_zero, List.set_cons_succ]
        rfl
      refine one_ (i := 4) (N := (some 25)) #[true, true, true, true, true, false, false, false, true, false, false] rfl rfl (by kernel_rfl) (by decide) (fun K hK => ?_)
      refine goes_ Try.func28 (by kernel_rfl) rfl #[.agg #[.int .i64 ak, .int .i64 an, .string au], .agg #[.int .i64 bk, .int .i64 bn, .string bu]] (by rfl) rfl rfl (by (try simp only [List.map_toArray, List.map_cons, List.map_nil]); first | done | rfl) ?_
      refine (less04 _ _ _ _ _ _ _).mono ?_
      rintro e w12 ⟨rfl, hb⟩
      refine ⟨_, rfl, ?_⟩
      replace hN := hN.step hb
      refine hK.out _ _ (hI.step hb) (fun hI' => ?_)
      clear hK K hb hI
      have hI := hI'
      clear hI'
      refine norm_ (a' := ?_) ?_ ?_
      rotate_left
      · show Act.put _ (some 25) _ = _
        simp only [Act.put, List.setIfInBounds_toArray, List.set_cons_zero, List.set_cons_succ]
        rfl
      refine pure_ (i := 5) (N := (some 20)) (v := ?_) (a' := ?_) #[true, true, true, true, true, true, false, false, true, false, false] rfl rfl (by kernel_rfl) (fun _ _ _ h => h) (Or.inl ⟨by rfl, ?_⟩) ?_ ?_
      rotate_left
      · intro w'
        go_simp
        with_reducible rfl
      rotate_left
      · simp only [Act.put, List.setIfInBounds_toArray, List.set_cons_zero, List.set_cons_succ]
        rfl
      refine pure_ (i := 6) (N := (some 26)) (v := ?_) (a' := ?_) #[true, true, true, true, true, true, true, false, true, false, false] rfl rfl (by kernel_rfl) (fun _ _ _ h => h) (Or.inl ⟨by rfl, ?_⟩) ?_ ?_
      rotate_left
      · intro w'
        go_simp
        with_reducible rfl
      rotate_left
      · simp only [Act.put, List.setIfInBounds_toArray, List.set_cons_zero, List.set_cons_succ]
        rfl
      refine pure_ (i := 7) (N := (some 27)) (v := ?_) (a' := ?_) #[true, true, true, true, true, true, true, true, true, false, false] rfl rfl (by kernel_rfl) (fun _ _ _ h => h) (Or.inl ⟨by rfl, ?_⟩) ?_ ?_
      rotate_left
      · intro w'
        go_simp
        with_reducible rfl
      rotate_left
      · simp only [Act.put, List.setIfInBounds_toArray, List.set_cons_zero, List.set_cons_succ]
        rfl
      exact norm_ (by simp only [putAll, Act.put, List.setIfInBounds_toArray, List.set_cons_zero, List.set_cons_succ]) (hC _ _ ⟨hI, hN⟩)
  rintro g3 w13 ⟨hI', hN⟩
  clear hI
  have hI := hI'
  clear hI'
  refine norm_ (a' := ?_) ?_ ?_
  rotate_left
  · simp only [putAll, Act.put, List.setIfInBounds_toArray, List.set_cons_zero, List.set_cons_succ]
    rfl
  refine one_ (i := 9) (N := none) #[true, true, true, true, true, true, true, true, true, true, false] rfl rfl (by kernel_rfl) (by decide) (fun K hK => ?_)
  refine skip_ (w1 := ?_) (by rfl) rfl ?_ ?_
  rotate_left
  · have c := hN.cell
    have f := hN.free
    go_simp
    rfl
  refine hK.out _ _ (New.inv3 hI hN _ _ _) (fun hI' => ?_)
  clear hK K
  have hN' := hN.put3 (u0 := .int .i64 (lessV ⟨ak, an, au⟩ ⟨bk, bn, bu⟩).k) (u1 := .int .i64 (lessV ⟨ak, an, au⟩ ⟨bk, bn, bu⟩).n) (u2 := .string (lessV ⟨ak, an, au⟩ ⟨bk, bn, bu⟩).s)
  have hI2 := hI'.cons hN'.blk
  clear hI hI' hN hN'
  have hI := hI2
  clear hI2
  refine pure_ (i := 10) (N := (some 7)) (v := ?_) (a' := ?_) #[true, true, true, true, true, true, true, true, true, true, true] rfl rfl (by kernel_rfl) (fun _ _ _ h => h) (Or.inl ⟨by rfl, ?_⟩) ?_ ?_
  rotate_left
  · intro w'
    go_simp
    with_reducible rfl
  rotate_left
  · simp only [Act.put, List.setIfInBounds_toArray, List.set_cons_zero, List.set_cons_succ]
    rfl
  refine done_ (by kernel_rfl) ?_
  generalize (((w13.setCell ⟨g3, 0, none⟩ (.int .i64 (lessV ⟨ak, an, au⟩ ⟨bk, bn, bu⟩).k)).setCell ⟨g3, 1, none⟩ (.int .i64 (lessV ⟨ak, an, au⟩ ⟨bk, bn, bu⟩).n)).setCell ⟨g3, 2, none⟩ (.string (lessV ⟨ak, an, au⟩ ⟨bk, bn, bu⟩).s)) = w14 at hI ⊢
  have hI4 := hI
  clear hI
  have x4_0 := hI4.cell 0 rfl
  have y4_0 := hI4.lt 0 rfl
  have x4_1 := hI4.cell 1 rfl
  have y4_1 := hI4.lt 1 rfl
  have x4_2 := hI4.cell 2 rfl
  have y4_2 := hI4.lt 2 rfl
  go_wp2_with fail
  have hI5 := hI4
  clear x4_0 y4_0 x4_1 y4_1 x4_2 y4_2 hI4
  refine start_ (n := 11) (S := Inv w [(g3, .cells #[.int .i64 (lessV ⟨ak, an, au⟩ ⟨bk, bn, bu⟩).k, .int .i64 (lessV ⟨ak, an, au⟩ ⟨bk, bn, bu⟩).n, .string (lessV ⟨ak, an, au⟩ ⟨bk, bn, bu⟩).s] 26 (0, 0)), (w.heap.size + 1, .cells #[.int .i64 bk, .int .i64 bn, .string bu] 24 (0, 0)), (w.heap.size, .cells #[.int .i64 ak, .int .i64 an, .string au] 24 (0, 0))]) (ds := []) #[false, false, false, false, false, false, false, false, false, false, false] (by kernel_rfl) rfl rfl hI5.drew (fun hI => ?_)
  clear hI5
  generalize World.drew _ = w15 at hI ⊢
  refine take_ (i := 0) (N := (some 29)) (v := ?_) (a' := ?_) #[true, false, false, false, false, false, false, false, false, false, false] rfl rfl (by kernel_rfl) (fun _ _ _ h => h) (Or.inl ⟨by rfl, ?_⟩) hI ?_ ?_
  rotate_left
  · intro w' h'
    have x := h'.cell 2 rfl
    go_simp
    with_reducible rfl
  rotate_left
  · simp only [Act.put, List.setIfInBounds_toArray, List.set_cons_zero, List.set_cons_succ]
    rfl
  refine take_ (i := 2) (N := (some 31)) (v := ?_) (a' := ?_) #[true, false, true, false, false, false, false, false, false, false, false] rfl rfl (by kernel_rfl) (fun _ _ _ h => h) (Or.inl ⟨by rfl, ?_⟩) hI ?_ ?_
  rotate_left
  · intro w' h'
    have x := h'.cell 1 rfl
    go_simp
    with_reducible rfl
  rotate_left
  · simp only [Act.put, List.setIfInBounds_toArray, List.set_cons_zero, List.set_cons_succ]
    rfl
  refine join_ (σ := Nat) 2 #[true, true, true, true, true, true, true, true, true, false, false] (fun g_ => [(30, .agg #[.int .i64 ak, .int .i64 an, .string au]), (32, .agg #[.int .i64 bk, .int .i64 bn, .string bu]), (33, .tuple #[.agg #[.int .i64 (lessV ⟨ak, an, au⟩ ⟨bk, bn, bu⟩).k, .int .i64 (lessV ⟨ak, an, au⟩ ⟨bk, bn, bu⟩).n, .string (lessV ⟨ak, an, au⟩ ⟨bk, bn, bu⟩).s], .int .i64 (lessT ⟨ak, an, au⟩ ⟨bk, bn, bu⟩)]), (28, .tuple #[.agg #[.int .i64 (lessV ⟨ak, an, au⟩ ⟨bk, bn, bu⟩).k, .int .i64 (lessV ⟨ak, an, au⟩ ⟨bk, bn, bu⟩).n, .string (lessV ⟨ak, an, au⟩ ⟨bk, bn, bu⟩).s], .int .i64 (lessT ⟨ak, an, au⟩ ⟨bk, bn, bu⟩)]), (34, .agg #[.int .i64 (lessV ⟨ak, an, au⟩ ⟨bk, bn, bu⟩).k, .int .i64 (lessV ⟨ak, an, au⟩ ⟨bk, bn, bu⟩).n, .string (lessV ⟨ak, an, au⟩ ⟨bk, bn, bu⟩).s]), (35, .int .i64 (lessT ⟨ak, an, au⟩ ⟨bk, bn, bu⟩)), (8, .pointer (some ⟨g_, 0, none⟩))]) (fun g_ w' => Inv w [(g3, .cells #[.int .i64 (lessV ⟨ak, an, au⟩ ⟨bk, bn, bu⟩).k, .int .i64 (lessV ⟨ak, an, au⟩ ⟨bk, bn, bu⟩).n, .string (lessV ⟨ak, an, au⟩ ⟨bk, bn, bu⟩).s] 26 (0, 0)), (w.heap.size + 1, .cells #[.int .i64 bk, .int .i64 bn, .string bu] 24 (0, 0)), (w.heap.size, .cells #[.int .i64 ak, .int .i64 an, .string au] 24 (0, 0))] w' ∧ New w [(g3, .cells #[.int .i64 (lessV ⟨ak, an, au⟩ ⟨bk, bn, bu⟩).k, .int .i64 (lessV ⟨ak, an, au⟩ ⟨bk, bn, bu⟩).n, .string (lessV ⟨ak, an, au⟩ ⟨bk, bn, bu⟩).s] 26 (0, 0)), (w.heap.size + 1, .cells #[.int .i64 bk, .int .i64 bn, .string bu] 24 (0, 0)), (w.heap.size, .cells #[.int .i64 ak, .int .i64 an, .string au] 24 (0, 0))] g_ (.cells #[.int .i64 0, .int .i64 0, .string (⟨#[]⟩ : ByteArray)] 26 (0, 0)) w') ?_ ?_
  rotate_left
  · intro hC
    refine two_ (i := 1) (j := 8) (Ni := (some 30)) (Nj := (some 8)) #[true, true, true, false, false, false, false, false, false, false, false] #[true, false, true, false, false, false, false, false, true, false, false] rfl rfl rfl rfl (by kernel_rfl) (by decide) (by decide) (fun K hK => ?_) (fun K hK => ?_)
    · skip
      refine goes_ Try.func17 (by kernel_rfl) rfl #[.agg #[.int .i64 ak, .int .i64 an, .string au]] (by rfl) rfl rfl (by (try simp only [List.map_toArray, List.map_cons, List.map_nil]); first | done | rfl) ?_
      refine (toV _ _ _ _).mono ?_
      rintro e w16 ⟨rfl, hb⟩
      refine ⟨_, rfl, ?_⟩
      refine hK.out _ _ (hI.step hb) (fun hI' => ?_)
      clear hK K hb hI
      have hI := hI'
      clear hI'
      refine norm_ (a' := ?_) ?_ ?_
      rotate_left
      · show Act.put _ (some 30) _ = _
        simp only [Act.put, List.setIfInBounds_toArray, List.set_cons_zero, List.set_cons_succ]
        rfl
      refine two_ (i := 3) (j := 8) (Ni := (some 32)) (Nj := (some 8)) #[true, true, true, true, false, false, false, false, false, false, false] #[true, true, true, false, false, false, false, false, true, false, false] rfl rfl rfl rfl (by kernel_rfl) (by decide) (by decide) (fun K hK => ?_) (fun K hK => ?_)
      · skip
        refine goes_ Try.func17 (by kernel_rfl) rfl #[.agg #[.int .i64 bk, .int .i64 bn, .string bu]] (by rfl) rfl rfl (by (try simp only [List.map_toArray, List.map_cons, List.map_nil]); first | done | rfl) ?_
        refine (toV _ _ _ _).mono ?_
        rintro e w17 ⟨rfl, hb⟩
        refine ⟨_, rfl, ?_⟩
        refine hK.out _ _ (hI.step hb) (fun hI' => ?_)
        clear hK K hb hI
        have hI := hI'
        clear hI'
        refine norm_ (a' := ?_) ?_ ?_
        rotate_left
        · show Act.put _ (some 32) _ = _
          simp only [Act.put, List.setIfInBounds_toArray, List.set_cons_zero, List.set_cons_succ]
          rfl
        refine two_ (i := 4) (j := 8) (Ni := (some 33)) (Nj := (some 8)) #[true, true, true, true, true, false, false, false, false, false, false] #[true, true, true, true, false, false, false, false, true, false, false] rfl rfl rfl rfl (by kernel_rfl) (by decide) (by decide) (fun K hK => ?_) (fun K hK => ?_)
        · skip
          refine goes_ Try.func29 (by kernel_rfl) rfl #[.agg #[.int .i64 ak, .int .i64 an, .string au], .agg #[.int .i64 bk, .int .i64 bn, .string bu]] (by rfl) rfl rfl (by (try simp only [List.map_toArray, List.map_cons, List.map_nil]); first | done | rfl) ?_
          refine (lessI _ _ _ _ _ _ _).mono ?_
          rintro e w18 ⟨rfl, hb⟩
          refine ⟨_, rfl, ?_⟩
          refine hK.out _ _ (hI.step hb) (fun hI' => ?_)
          clear hK K hb hI
          have hI := hI'
          clear hI'
          refine norm_ (a' := ?_) ?_ ?_
          rotate_left
          · show Act.put _ (some 33) _ = _
            simp only [Act.put, List.setIfInBounds_toArray, List.set_cons_zero, List.set_cons_succ]
            rfl
          refine pure_ (i := 5) (N := (some 28)) (v := ?_) (a' := ?_) #[true, true, true, true, true, true, false, false, false, false, false] rfl rfl (by kernel_rfl) (fun _ _ _ h => h) (Or.inl ⟨by rfl, ?_⟩) ?_ ?_
          rotate_left
          · intro w'
            go_simp
            with_reducible rfl
          rotate_left
          · simp only [Act.put, List.setIfInBounds_toArray, List.set_cons_zero, List.set_cons_succ]
            rfl
          refine pure_ (i := 6) (N := (some 34)) (v := ?_) (a' := ?_) #[true, true, true, true, true, true, true, false, false, false, false] rfl rfl (by kernel_rfl) (fun _ _ _ h => h) (Or.inl ⟨by rfl, ?_⟩) ?_ ?_
          rotate_left
          · intro w'
            go_simp
            with_reducible rfl
          rotate_left
          · simp only [Act.put, List.setIfInBounds_toArray, List.set_cons_zero, List.set_cons_succ]
            rfl
          refine pure_ (i := 7) (N := (some 35)) (v := ?_) (a' := ?_) #[true, true, true, true, true, true, true, true, false, false, false] rfl rfl (by kernel_rfl) (fun _ _ _ h => h) (Or.inl ⟨by rfl, ?_⟩) ?_ ?_
          rotate_left
          · intro w'
            go_simp
            with_reducible rfl
          rotate_left
          · simp only [Act.put, List.setIfInBounds_toArray, List.set_cons_zero, List.set_cons_succ]
            rfl
          refine one_ (i := 8) (N := (some 8)) #[true, true, true, true, true, true, true, true, true, false, false] rfl rfl (by kernel_rfl) (by decide) (fun K hK => ?_)
          refine value_ (w1 := ?_) (v := ?_) (by rfl) rfl ?_ ?_
          rotate_left 2
          · go_simp
            constructor
            · rfl
            · rfl
          have hN := New.made hI (.cells #[.int .i64 0, .int .i64 0, .string (⟨#[]⟩ : ByteArray)] 26 (0, 0))
          refine hK.out _ _ (hI.alloc _) (fun hI' => ?_)
          clear hK K hI
          have hI := hI'
          clear hI'
          refine norm_ (a' := ?_) ?_ ?_
          rotate_left
          · show Act.put _ (some 8) _ = _
            simp only [Act.put, List.setIfInBounds_toArray, List.set_cons_zero, List.set_cons_succ]
            rfl
          exact norm_ (by simp only [putAll, Act.put, List.setIfInBounds_toArray, List.set_cons_zero, List.set_cons_succ]) (hC _ _ ⟨hI, hN⟩)
        · skip
          refine value_ (w1 := ?_) (v := ?_) (by rfl) rfl ?_ ?_
          rotate_left 2
          · go_simp
            constructor
            · rfl
            · rfl
          have hN := New.made hI (.cells #[.int .i64 0, .int .i64 0, .string (⟨#[]⟩ : ByteArray)] 26 (0, 0))
          refine hK.out _ _ (hI.alloc _) (fun hI' => ?_)
          clear hK K hI
          have hI := hI'
          clear hI'
          refine norm_ (a' := ?_) ?_ ?_
          rotate_left
          · show Act.put _ (some 8) _ = _
            simp only [Act.put, List.setIfInBounds_toArray, List.set_cons_zero, List.set_cons_succ]
            rfl
          refine one_ (i := 4) (N := (some 33)) #[true, true, true, true, true, false, false, false, true, false, false] rfl rfl (by kernel_rfl) (by decide) (fun K hK => ?_)
          refine goes_ Try.func29 (by kernel_rfl) rfl #[.agg #[.int .i64 ak, .int .i64 an, .string au], .agg #[.int .i64 bk, .int .i64 bn, .string bu]] (by rfl) rfl rfl (by (try simp only [List.map_toArray, List.map_cons, List.map_nil]); first | done | rfl) ?_
          refine (lessI _ _ _ _ _ _ _).mono ?_
          rintro e w19 ⟨rfl, hb⟩
          refine ⟨_, rfl, ?_⟩
          replace hN := hN.step hb
          refine hK.out _ _ (hI.step hb) (fun hI' => ?_)
          clear hK K hb hI
          have hI := hI'
          clear hI'
          refine norm_ (a' := ?_) ?_ ?_
          rotate_left
          · show Act.put _ (some 33) _ = _
            simp only [Act.put, List.setIfInBounds_toArray, List.set_cons_zero, List.set_cons_succ]
            rfl
          refine pure_ (i := 5) (N := (some 28)) (v := ?_) (a' := ?_) #[true, true, true, true, true, true, false, false, true, false, false] rfl rfl (by kernel_rfl) (fun _ _ _ h => h) (Or.inl ⟨by rfl, ?_⟩) ?_ ?_
          rotate_left
          · intro w'
            go_simp
            with_reducible rfl
          rotate_left
          · simp only [Act.put, List.setIfInBounds_toArray, List.set_cons_zero, List.set_cons_succ]
            rfl
          refine pure_ (i := 6) (N := (some 34)) (v := ?_) (a' := ?_) #[true, true, true, true, true, true, true, false, true, false, false] rfl rfl (by kernel_rfl) (fun _ _ _ h => h) (Or.inl ⟨by rfl, ?_⟩) ?_ ?_
          rotate_left
          · intro w'
            go_simp
            with_reducible rfl
          rotate_left
          · simp only [Act.put, List.setIfInBounds_toArray, List.set_cons_zero, List.set_cons_succ]
            rfl
          refine pure_ (i := 7) (N := (some 35)) (v := ?_) (a' := ?_) #[true, true, true, true, true, true, true, true, true, false, false] rfl rfl (by kernel_rfl) (fun _ _ _ h => h) (Or.inl ⟨by rfl, ?_⟩) ?_ ?_
          rotate_left
          · intro w'
            go_simp
            with_reducible rfl
          rotate_left
          · simp only [Act.put, List.setIfInBounds_toArray, List.set_cons_zero, List.set_cons_succ]
            rfl
          exact norm_ (by simp only [putAll, Act.put, List.setIfInBounds_toArray, List.set_cons_zero, List.set_cons_succ]) (hC _ _ ⟨hI, hN⟩)
      · skip
        refine value_ (w1 := ?_) (v := ?_) (by rfl) rfl ?_ ?_
        rotate_left 2
        · go_simp
          constructor
          · rfl
          · rfl
        have hN := New.made hI (.cells #[.int .i64 0, .int .i64 0, .string (⟨#[]⟩ : ByteArray)] 26 (0, 0))
        refine hK.out _ _ (hI.alloc _) (fun hI' => ?_)
        clear hK K hI
        have hI := hI'
        clear hI'
        refine norm_ (a' := ?_) ?_ ?_
        rotate_left
        · show Act.put _ (some 8) _ = _
          simp only [Act.put, List.setIfInBounds_toArray, List.set_cons_zero, List.set_cons_succ]
          rfl
        refine one_ (i := 3) (N := (some 32)) #[true, true, true, true, false, false, false, false, true, false, false] rfl rfl (by kernel_rfl) (by decide) (fun K hK => ?_)
        refine goes_ Try.func17 (by kernel_rfl) rfl #[.agg #[.int .i64 bk, .int .i64 bn, .string bu]] (by rfl) rfl rfl (by (try simp only [List.map_toArray, List.map_cons, List.map_nil]); first | done | rfl) ?_
        refine (toV _ _ _ _).mono ?_
        rintro e w20 ⟨rfl, hb⟩
        refine ⟨_, rfl, ?_⟩
        replace hN := hN.step hb
        refine hK.out _ _ (hI.step hb) (fun hI' => ?_)
        clear hK K hb hI
        have hI := hI'
        clear hI'
        refine norm_ (a' := ?_) ?_ ?_
        rotate_left
        · show Act.put _ (some 32) _ = _
          simp only [Act.put, List.setIfInBounds_toArray, List.set_cons_zero, List.set_cons_succ]
          rfl
        refine one_ (i := 4) (N := (some 33)) #[true, true, true, true, true, false, false, false, true, false, false] rfl rfl (by kernel_rfl) (by decide) (fun K hK => ?_)
        refine goes_ Try.func29 (by kernel_rfl) rfl #[.agg #[.int .i64 ak, .int .i64 an, .string au], .agg #[.int .i64 bk, .int .i64 bn, .string bu]] (by rfl) rfl rfl (by (try simp only [List.map_toArray, List.map_cons, List.map_nil]); first | done | rfl) ?_
        refine (lessI _ _ _ _ _ _ _).mono ?_
        rintro e w21 ⟨rfl, hb⟩
        refine ⟨_, rfl, ?_⟩
        replace hN := hN.step hb
        refine hK.out _ _ (hI.step hb) (fun hI' => ?_)
        clear hK K hb hI
        have hI := hI'
        clear hI'
        refine norm_ (a' := ?_) ?_ ?_
        rotate_left
        · show Act.put _ (some 33) _ = _
          simp only [Act.put, List.setIfInBounds_toArray, List.set_cons_zero, List.set_cons_succ]
          rfl
        refine pure_ (i := 5) (N := (some 28)) (v := ?_) (a' := ?_) #[true, true, true, true, true, true, false, false, true, false, false] rfl rfl (by kernel_rfl) (fun _ _ _ h => h) (Or.inl ⟨by rfl, ?_⟩) ?_ ?_
        rotate_left
        · intro w'
          go_simp
          with_reducible rfl
        rotate_left
        · simp only [Act.put, List.setIfInBounds_toArray, List.set_cons_zero, List.set_cons_succ]
          rfl
        refine pure_ (i := 6) (N := (some 34)) (v := ?_) (a' := ?_) #[true, true, true, true, true, true, true, false, true, false, false] rfl rfl (by kernel_rfl) (fun _ _ _ h => h) (Or.inl ⟨by rfl, ?_⟩) ?_ ?_
        rotate_left
        · intro w'
          go_simp
          with_reducible rfl
        rotate_left
        · simp only [Act.put, List.setIfInBounds_toArray, List.set_cons_zero, List.set_cons_succ]
          rfl
        refine pure_ (i := 7) (N := (some 35)) (v := ?_) (a' := ?_) #[true, true, true, true, true, true, true, true, true, false, false] rfl rfl (by kernel_rfl) (fun _ _ _ h => h) (Or.inl ⟨by rfl, ?_⟩) ?_ ?_
        rotate_left
        · intro w'
          go_simp
          with_reducible rfl
        rotate_left
        · simp only [Act.put, List.setIfInBounds_toArray, List.set_cons_zero, List.set_cons_succ]
          rfl
        exact norm_ (by simp only [putAll, Act.put, List.setIfInBounds_toArray, List.set_cons_zero, List.set_cons_succ]) (hC _ _ ⟨hI, hN⟩)
    · skip
      refine value_ (w1 := ?_) (v := ?_) (by rfl) rfl ?_ ?_
      rotate_left 2
      · go_simp
        constructor
        · rfl
        · rfl
      have hN := New.made hI (.cells #[.int .i64 0, .int .i64 0, .string (⟨#[]⟩ : ByteArray)] 26 (0, 0))
      refine hK.out _ _ (hI.alloc _) (fun hI' => ?_)
      clear hK K hI
      have hI := hI'
      clear hI'
      refine norm_ (a' := ?_) ?_ ?_
      rotate_left
      · show Act.put _ (some 8) _ = _
        simp only [Act.put, List.setIfInBounds_toArray, List.set_cons_zero, List.set_cons_succ]
        rfl
      refine one_ (i := 1) (N := (some 30)) #[true, true, true, false, false, false, false, false, true, false, false] rfl rfl (by kernel_rfl) (by decide) (fun K hK => ?_)
      refine goes_ Try.func17 (by kernel_rfl) rfl #[.agg #[.int .i64 ak, .int .i64 an, .string au]] (by rfl) rfl rfl (by (try simp only [List.map_toArray, List.map_cons, List.map_nil]); first | done | rfl) ?_
      refine (toV _ _ _ _).mono ?_
      rintro e w22 ⟨rfl, hb⟩
      refine ⟨_, rfl, ?_⟩
      replace hN := hN.step hb
      refine hK.out _ _ (hI.step hb) (fun hI' => ?_)
      clear hK K hb hI
      have hI := hI'
      clear hI'
      refine norm_ (a' := ?_) ?_ ?_
      rotate_left
      · show Act.put _ (some 30) _ = _
        simp only [Act.put, List.setIfInBounds_toArray, List.set_cons_zero, List.set_cons_succ]
        rfl
      refine one_ (i := 3) (N := (some 32)) #[true, true, true, true, false, false, false, false, true, false, false] rfl rfl (by kernel_rfl) (by decide) (fun K hK => ?_)
      refine goes_ Try.func17 (by kernel_rfl) rfl #[.agg #[.int .i64 bk, .int .i64 bn, .string bu]] (by rfl) rfl rfl (by (try simp only [List.map_toArray, List.map_cons, List.map_nil]); first | done | rfl) ?_
      refine (toV _ _ _ _).mono ?_
      rintro e w23 ⟨rfl, hb⟩
      refine ⟨_, rfl, ?_⟩
      replace hN := hN.step hb
      refine hK.out _ _ (hI.step hb) (fun hI' => ?_)
      clear hK K hb hI
      have hI := hI'
      clear hI'
      refine norm_ (a' := ?_) ?_ ?_
      rotate_left
      · show Act.put _ (some 32) _ = _
        simp only [Act.put, List.setIfInBounds_toArray, List.set_cons_zero, List.set_cons_succ]
        rfl
      refine one_ (i := 4) (N := (some 33)) #[true, true, true, true, true, false, false, false, true, false, false] rfl rfl (by kernel_rfl) (by decide) (fun K hK => ?_)
      refine goes_ Try.func29 (by kernel_rfl) rfl #[.agg #[.int .i64 ak, .int .i64 an, .string au], .agg #[.int .i64 bk, .int .i64 bn, .string bu]] (by rfl) rfl rfl (by (try simp only [List.map_toArray, List.map_cons, List.map_nil]); first | done | rfl) ?_
      refine (lessI _ _ _ _ _ _ _).mono ?_
      rintro e w24 ⟨rfl, hb⟩
      refine ⟨_, rfl, ?_⟩
      replace hN := hN.step hb
      refine hK.out _ _ (hI.step hb) (fun hI' => ?_)
      clear hK K hb hI
      have hI := hI'
      clear hI'
      refine norm_ (a' := ?_) ?_ ?_
      rotate_left
      · show Act.put _ (some 33) _ = _
        simp only [Act.put, List.setIfInBounds_toArray, List.set_cons_zero, List.set_cons_succ]
        rfl
      refine pure_ (i := 5) (N := (some 28)) (v := ?_) (a' := ?_) #[true, true, true, true, true, true, false, false, true, false, false] rfl rfl (by kernel_rfl) (fun _ _ _ h => h) (Or.inl ⟨by rfl, ?_⟩) ?_ ?_
      rotate_left
      · intro w'
        go_simp
        with_reducible rfl
      rotate_left
      · simp only [Act.put, List.setIfInBounds_toArray, List.set_cons_zero, List.set_cons_succ]
        rfl
      refine pure_ (i := 6) (N := (some 34)) (v := ?_) (a' := ?_) #[true, true, true, true, true, true, true, false, true, false, false] rfl rfl (by kernel_rfl) (fun _ _ _ h => h) (Or.inl ⟨by rfl, ?_⟩) ?_ ?_
      rotate_left
      · intro w'
        go_simp
        with_reducible rfl
      rotate_left
      · simp only [Act.put, List.setIfInBounds_toArray, List.set_cons_zero, List.set_cons_succ]
        rfl
      refine pure_ (i := 7) (N := (some 35)) (v := ?_) (a' := ?_) #[true, true, true, true, true, true, true, true, true, false, false] rfl rfl (by kernel_rfl) (fun _ _ _ h => h) (Or.inl ⟨by rfl, ?_⟩) ?_ ?_
      rotate_left
      · intro w'
        go_simp
        with_reducible rfl
      rotate_left
      · simp only [Act.put, List.setIfInBounds_toArray, List.set_cons_zero, List.set_cons_succ]
        rfl
      exact norm_ (by simp only [putAll, Act.put, List.setIfInBounds_toArray, List.set_cons_zero, List.set_cons_succ]) (hC _ _ ⟨hI, hN⟩)
  rintro g5 w25 ⟨hI', hN⟩
  clear hI
  have hI := hI'
  clear hI'
  refine norm_ (a' := ?_) ?_ ?_
  rotate_left
  · simp only [putAll, Act.put, List.setIfInBounds_toArray, List.set_cons_zero, List.set_cons_succ]
    rfl
  refine one_ (i := 9) (N := none) #[true, true, true, true, true, true, true, true, true, true, false] rfl rfl (by kernel_rfl) (by decide) (fun K hK => ?_)
  refine skip_ (w1 := ?_) (by rfl) rfl ?_ ?_
  rotate_left
  · have c := hN.cell
    have f := hN.free
    go_simp
    rfl
  refine hK.out _ _ (New.inv3 hI hN _ _ _) (fun hI' => ?_)
  clear hK K
  have hN' := hN.put3 (u0 := .int .i64 (lessV ⟨ak, an, au⟩ ⟨bk, bn, bu⟩).k) (u1 := .int .i64 (lessV ⟨ak, an, au⟩ ⟨bk, bn, bu⟩).n) (u2 := .string (lessV ⟨ak, an, au⟩ ⟨bk, bn, bu⟩).s)
  have hI2 := hI'.cons hN'.blk
  clear hI hI' hN hN'
  have hI := hI2
  clear hI2
  refine pure_ (i := 10) (N := (some 9)) (v := ?_) (a' := ?_) #[true, true, true, true, true, true, true, true, true, true, true] rfl rfl (by kernel_rfl) (fun _ _ _ h => h) (Or.inl ⟨by rfl, ?_⟩) ?_ ?_
  rotate_left
  · intro w'
    go_simp
    with_reducible rfl
  rotate_left
  · simp only [Act.put, List.setIfInBounds_toArray, List.set_cons_zero, List.set_cons_succ]
    rfl
  refine done_ (by kernel_rfl) ?_
  generalize (((w25.setCell ⟨g5, 0, none⟩ (.int .i64 (lessV ⟨ak, an, au⟩ ⟨bk, bn, bu⟩).k)).setCell ⟨g5, 1, none⟩ (.int .i64 (lessV ⟨ak, an, au⟩ ⟨bk, bn, bu⟩).n)).setCell ⟨g5, 2, none⟩ (.string (lessV ⟨ak, an, au⟩ ⟨bk, bn, bu⟩).s)) = w26 at hI ⊢
  have hI6 := hI
  clear hI
  have x6_0 := hI6.cell 0 rfl
  have y6_0 := hI6.lt 0 rfl
  have x6_1 := hI6.cell 1 rfl
  have y6_1 := hI6.lt 1 rfl
  have x6_2 := hI6.cell 2 rfl
  have y6_2 := hI6.lt 2 rfl
  have x6_3 := hI6.cell 3 rfl
  have y6_3 := hI6.lt 3 rfl
  go_wp2_with fail
  refine (eqV _ _ _ _).mono ?_
  rintro e w27 ⟨rfl, hb27⟩
  have hI7 := hI6.step hb27
  clear hb27 x6_0 y6_0 x6_1 y6_1 x6_2 y6_2 x6_3 y6_3 hI6
  have x7_0 := hI7.cell 0 rfl
  have y7_0 := hI7.lt 0 rfl
  have x7_1 := hI7.cell 1 rfl
  have y7_1 := hI7.lt 1 rfl
  have x7_2 := hI7.cell 2 rfl
  have y7_2 := hI7.lt 2 rfl
  have x7_3 := hI7.cell 3 rfl
  have y7_3 := hI7.lt 3 rfl
  go_wp2
  go_ret
  exact ⟨rfl, hI7.bel⟩
set_option maxHeartbeats 1000000 in
set_option maxRecDepth 100000 in
theorem mulLaw (ak an : Int) (au : ByteArray) (bk bn : Int) (bu : ByteArray) (w : World) (ha1 : (Lit.int .i64 ak).wf = true) (ha2 : (Lit.int .i64 an).wf = true) (hma : au.size ≤ maxLen) (hb1 : (Lit.int .i64 bk).wf = true) (hb2 : (Lit.int .i64 bn).wf = true) (hmb : bu.size ≤ maxLen) : Calls Try.prog 8 #[.agg #[.int .i64 ak, .int .i64 an, .string au], .agg #[.int .i64 bk, .int .i64 bn, .string bu]] w fun e w' => e = .returned (.bool true) ∧ Below w.heap.size w w' := by
  clear ha1 ha2 hb1 hb2
  by_cases hsa : (au.size : Int) ≤ 1048576
  rotate_left
  · have hs := hsa
    go_enter Try.func8, Try.ntmps8
    go_wp2_with fail
    refine (szV_no ak an au (1048576) _ hma (by omega) (by omega) (by omega)).mono ?_
    rintro e w1 ⟨rfl, hb1⟩
    have hI1 := (((Inv.start w).made _ (w.heap.size) (by simp)).made _ (w.heap.size + 1) (by simp)).step hb1
    clear hb1
    have x1_0 := hI1.cell 0 rfl
    have y1_0 := hI1.lt 0 rfl
    have x1_1 := hI1.cell 1 rfl
    have y1_1 := hI1.lt 1 rfl
    go_wp2
    go_ret
    exact ⟨rfl, hI1.bel⟩
  have ga : 0 ≤ 1048576 - (au.size : Int) := by omega
  by_cases hsb : (bu.size : Int) ≤ 1048576 - (au.size : Int)
  rotate_left
  · have hs := hsb
    go_enter Try.func8, Try.ntmps8
    go_wp2_with fail
    refine (szV_ok ak an au (1048576) _ hma (by omega) (by omega) (by omega)).mono ?_
    rintro e w1 ⟨rfl, hb1⟩
    have hI1 := (((Inv.start w).made _ (w.heap.size) (by simp)).made _ (w.heap.size + 1) (by simp)).step hb1
    clear hb1
    have x1_0 := hI1.cell 0 rfl
    have y1_0 := hI1.lt 0 rfl
    have x1_1 := hI1.cell 1 rfl
    have y1_1 := hI1.lt 1 rfl
    go_wp2_with fail
    refine (szV_no bk bn bu (1048576 - (au.size : Int)) _ hmb (by omega) (by omega) (by omega)).mono ?_
    rintro e w2 ⟨rfl, hb2⟩
    have hI2 := hI1.step hb2
    clear hb2 x1_0 y1_0 x1_1 y1_1 hI1
    have x2_0 := hI2.cell 0 rfl
    have y2_0 := hI2.lt 0 rfl
    have x2_1 := hI2.cell 1 rfl
    have y2_1 := hI2.lt 1 rfl
    go_wp2
    go_ret
    exact ⟨rfl, hI2.bel⟩
  have gb : 0 ≤ 1048576 - (au.size : Int) - (bu.size : Int) := by omega
  go_enter Try.func8, Try.ntmps8
  go_wp2_with fail
  refine (szV_ok ak an au (1048576) _ hma (by omega) (by omega) (by omega)).mono ?_
  rintro e w1 ⟨rfl, hb1⟩
  have hI1 := (((Inv.start w).made _ (w.heap.size) (by simp)).made _ (w.heap.size + 1) (by simp)).step hb1
  clear hb1
  have x1_0 := hI1.cell 0 rfl
  have y1_0 := hI1.lt 0 rfl
  have x1_1 := hI1.cell 1 rfl
  have y1_1 := hI1.lt 1 rfl
  go_wp2_with fail
  refine (szV_ok bk bn bu (1048576 - (au.size : Int)) _ hmb (by omega) (by omega) (by omega)).mono ?_
  rintro e w2 ⟨rfl, hb2⟩
  have hI2 := hI1.step hb2
  clear hb2 x1_0 y1_0 x1_1 y1_1 hI1
  have x2_0 := hI2.cell 0 rfl
  have y2_0 := hI2.lt 0 rfl
  have x2_1 := hI2.cell 1 rfl
  have y2_1 := hI2.lt 1 rfl
  go_wp2_with fail
  have hI3 := hI2
  clear x2_0 y2_0 x2_1 y2_1 hI2
  refine start_ (n := 11) (S := Inv w [(w.heap.size + 1, .cells #[.int .i64 bk, .int .i64 bn, .string bu] 24 (0, 0)), (w.heap.size, .cells #[.int .i64 ak, .int .i64 an, .string au] 24 (0, 0))]) (ds := []) #[false, false, false, false, false, false, false, false, false, false, false] (by kernel_rfl) rfl rfl hI3.drew (fun hI => ?_)
  clear hI3
  generalize World.drew _ = w3 at hI ⊢
  refine take_ (i := 0) (N := (some 21)) (v := ?_) (a' := ?_) #[true, false, false, false, false, false, false, false, false, false, false] rfl rfl (by kernel_rfl) (fun _ _ _ h => h) (Or.inl ⟨by rfl, ?_⟩) hI ?_ ?_
  rotate_left
  · intro w' h'
    have x := h'.cell 1 rfl
    go_simp
    with_reducible rfl
  rotate_left
  · simp only [Act.put, List.setIfInBounds_toArray, List.set_cons_zero, List.set_cons_succ]
    rfl
  refine take_ (i := 2) (N := (some 23)) (v := ?_) (a' := ?_) #[true, false, true, false, false, false, false, false, false, false, false] rfl rfl (by kernel_rfl) (fun _ _ _ h => h) (Or.inl ⟨by rfl, ?_⟩) hI ?_ ?_
  rotate_left
  · intro w' h'
    have x := h'.cell 0 rfl
    go_simp
    with_reducible rfl
  rotate_left
  · simp only [Act.put, List.setIfInBounds_toArray, List.set_cons_zero, List.set_cons_succ]
    rfl
  refine join_ (σ := Nat) 2 #[true, true, true, true, true, true, true, true, true, false, false] (fun g_ => [(22, .agg #[.int .i64 ak, .int .i64 an, .string au]), (24, .agg #[.int .i64 bk, .int .i64 bn, .string bu]), (25, .tuple #[.agg #[.int .i64 (arV (· * ·) ⟨ak, an, au⟩ ⟨bk, bn, bu⟩).k, .int .i64 (arV (· * ·) ⟨ak, an, au⟩ ⟨bk, bn, bu⟩).n, .string (arV (· * ·) ⟨ak, an, au⟩ ⟨bk, bn, bu⟩).s], .int .i64 (arT (· * ·) ⟨ak, an, au⟩ ⟨bk, bn, bu⟩)]), (20, .tuple #[.agg #[.int .i64 (arV (· * ·) ⟨ak, an, au⟩ ⟨bk, bn, bu⟩).k, .int .i64 (arV (· * ·) ⟨ak, an, au⟩ ⟨bk, bn, bu⟩).n, .string (arV (· * ·) ⟨ak, an, au⟩ ⟨bk, bn, bu⟩).s], .int .i64 (arT (· * ·) ⟨ak, an, au⟩ ⟨bk, bn, bu⟩)]), (26, .agg #[.int .i64 (arV (· * ·) ⟨ak, an, au⟩ ⟨bk, bn, bu⟩).k, .int .i64 (arV (· * ·) ⟨ak, an, au⟩ ⟨bk, bn, bu⟩).n, .string (arV (· * ·) ⟨ak, an, au⟩ ⟨bk, bn, bu⟩).s]), (27, .int .i64 (arT (· * ·) ⟨ak, an, au⟩ ⟨bk, bn, bu⟩)), (6, .pointer (some ⟨g_, 0, none⟩))]) (fun g_ w' => Inv w [(w.heap.size + 1, .cells #[.int .i64 bk, .int .i64 bn, .string bu] 24 (0, 0)), (w.heap.size, .cells #[.int .i64 ak, .int .i64 an, .string au] 24 (0, 0))] w' ∧ New w [(w.heap.size + 1, .cells #[.int .i64 bk, .int .i64 bn, .string bu] 24 (0, 0)), (w.heap.size, .cells #[.int .i64 ak, .int .i64 an, .string au] 24 (0, 0))] g_ (.cells #[.int .i64 0, .int .i64 0, .string (⟨#[]⟩ : ByteArray)] 26 (0, 0)) w') ?_ ?_
  rotate_left
  · intro hC
    refine two_ (i := 1) (j := 8) (Ni := (some 22)) (Nj := (some 6)) #[true, true, true, false, false, false, false, false, false, false, false] #[true, false, true, false, false, false, false, false, true, false, false] rfl rfl rfl rfl (by kernel_rfl) (by decide) (by decide) (fun K hK => ?_) (fun K hK => ?_)
    · skip
      refine goes_ Try.func17 (by kernel_rfl) rfl #[.agg #[.int .i64 ak, .int .i64 an, .string au]] (by rfl) rfl rfl (by (try simp only [List.map_toArray, List.map_cons, List.map_nil]); first | done | rfl) ?_
      refine (toV _ _ _ _).mono ?_
      rintro e w4 ⟨rfl, hb⟩
      refine ⟨_, rfl, ?_⟩
      refine hK.out _ _ (hI.step hb) (fun hI' => ?_)
      clear hK K hb hI
      have hI := hI'
      clear hI'
      refine norm_ (a' := ?_) ?_ ?_
      rotate_left
      · show Act.put _ (some 22) _ = _
        simp only [Act.put, List.setIfInBounds_toArray, List.set_cons_zero, List.set_cons_succ]
        rfl
      refine two_ (i := 3) (j := 8) (Ni := (some 24)) (Nj := (some 6)) #[true, true, true, true, false, false, false, false, false, false, false] #[true, true, true, false, false, false, false, false, true, false, false] rfl rfl rfl rfl (by kernel_rfl) (by decide) (by decide) (fun K hK => ?_) (fun K hK => ?_)
      · skip
        refine goes_ Try.func17 (by kernel_rfl) rfl #[.agg #[.int .i64 bk, .int .i64 bn, .string bu]] (by rfl) rfl rfl (by (try simp only [List.map_toArray, List.map_cons, List.map_nil]); first | done | rfl) ?_
        refine (toV _ _ _ _).mono ?_
        rintro e w5 ⟨rfl, hb⟩
        refine ⟨_, rfl, ?_⟩
        refine hK.out _ _ (hI.step hb) (fun hI' => ?_)
        clear hK K hb hI
        have hI := hI'
        clear hI'
        refine norm_ (a' := ?_) ?_ ?_
        rotate_left
        · show Act.put _ (some 24) _ = _
          simp only [Act.put, List.setIfInBounds_toArray, List.set_cons_zero, List.set_cons_succ]
          rfl
        refine two_ (i := 4) (j := 8) (Ni := (some 25)) (Nj := (some 6)) #[true, true, true, true, true, false, false, false, false, false, false] #[true, true, true, true, false, false, false, false, true, false, false] rfl rfl rfl rfl (by kernel_rfl) (by decide) (by decide) (fun K hK => ?_) (fun K hK => ?_)
        · skip
          refine goes_ Try.func30 (by kernel_rfl) rfl #[.agg #[.int .i64 ak, .int .i64 an, .string au], .agg #[.int .i64 bk, .int .i64 bn, .string bu]] (by rfl) rfl rfl (by (try simp only [List.map_toArray, List.map_cons, List.map_nil]); first | done | rfl) ?_
          refine (mul04 _ _ _ _ _ _ _).mono ?_
          rintro e w6 ⟨rfl, hb⟩
          refine ⟨_, rfl, ?_⟩
          refine hK.out _ _ (hI.step hb) (fun hI' => ?_)
          clear hK K hb hI
          have hI := hI'
          clear hI'
          refine norm_ (a' := ?_) ?_ ?_
          rotate_left
          · show Act.put _ (some 25) _ = _
            simp only [Act.put, List.setIfInBounds_toArray, List.set_cons_zero, List.set_cons_succ]
            rfl
          refine pure_ (i := 5) (N := (some 20)) (v := ?_) (a' := ?_) #[true, true, true, true, true, true, false, false, false, false, false] rfl rfl (by kernel_rfl) (fun _ _ _ h => h) (Or.inl ⟨by rfl, ?_⟩) ?_ ?_
          rotate_left
          · intro w'
            go_simp
            with_reducible rfl
          rotate_left
          · simp only [Act.put, List.setIfInBounds_toArray, List.set_cons_zero, List.set_cons_succ]
            rfl
          refine pure_ (i := 6) (N := (some 26)) (v := ?_) (a' := ?_) #[true, true, true, true, true, true, true, false, false, false, false] rfl rfl (by kernel_rfl) (fun _ _ _ h => h) (Or.inl ⟨by rfl, ?_⟩) ?_ ?_
          rotate_left
          · intro w'
            go_simp
            with_reducible rfl
          rotate_left
          · simp only [Act.put, List.setIfInBounds_toArray, List.set_cons_zero, List.set_cons_succ]
            rfl
          refine pure_ (i := 7) (N := (some 27)) (v := ?_) (a' := ?_) #[true, true, true, true, true, true, true, true, false, false, false] rfl rfl (by kernel_rfl) (fun _ _ _ h => h) (Or.inl ⟨by rfl, ?_⟩) ?_ ?_
          rotate_left
          · intro w'
            go_simp
            with_reducible rfl
          rotate_left
          · simp only [Act.put, List.setIfInBounds_toArray, List.set_cons_zero, List.set_cons_succ]
            rfl
          refine one_ (i := 8) (N := (some 6)) #[true, true, true, true, true, true, true, true, true, false, false] rfl rfl (by kernel_rfl) (by decide) (fun K hK => ?_)
          refine value_ (w1 := ?_) (v := ?_) (by rfl) rfl ?_ ?_
          rotate_left 2
          · go_simp
            constructor
            · rfl
            · rfl
          have hN := New.made hI (.cells #[.int .i64 0, .int .i64 0, .string (⟨#[]⟩ : ByteArray)] 26 (0, 0))
          refine hK.out _ _ (hI.alloc _) (fun hI' => ?_)
          clear hK K hI
          have hI := hI'
          clear hI'
          refine norm_ (a' := ?_) ?_ ?_
          rotate_left
          · show Act.put _ (some 6) _ = _
            simp only [Act.put, List.setIfInBounds_toArray, List.set_cons_zero, List.set_cons_succ]
            rfl
          exact norm_ (by simp only [putAll, Act.put, List.setIfInBounds_toArray, List.set_cons_zero, List.set_cons_succ]) (hC _ _ ⟨hI, hN⟩)
        · skip
          refine value_ (w1 := ?_) (v := ?_) (by rfl) rfl ?_ ?_
          rotate_left 2
          · go_simp
            constructor
            · rfl
            · rfl
          have hN := New.made hI (.cells #[.int .i64 0, .int .i64 0, .string (⟨#[]⟩ : ByteArray)] 26 (0, 0))
          refine hK.out _ _ (hI.alloc _) (fun hI' => ?_)
          clear hK K hI
          have hI := hI'
          clear hI'
          refine norm_ (a' := ?_) ?_ ?_
          rotate_left
          · show Act.put _ (some 6) _ = _
            simp only [Act.put, List.setIfInBounds_toArray, List.set_cons_zero, List.set_cons_succ]
            rfl
          refine one_ (i := 4) (N := (some 25)) #[true, true, true, true, true, false, false, false, true, false, false] rfl rfl (by kernel_rfl) (by decide) (fun K hK => ?_)
          refine goes_ Try.func30 (by kernel_rfl) rfl #[.agg #[.int .i64 ak, .int .i64 an, .string au], .agg #[.int .i64 bk, .int .i64 bn, .string bu]] (by rfl) rfl rfl (by (try simp only [List.map_toArray, List.map_cons, List.map_nil]); first | done | rfl) ?_
          refine (mul04 _ _ _ _ _ _ _).mono ?_
          rintro e w7 ⟨rfl, hb⟩
          refine ⟨_, rfl, ?_⟩
          replace hN := hN.step hb
          refine hK.out _ _ (hI.step hb) (fun hI' => ?_)
          clear hK K hb hI
          have hI := hI'
          clear hI'
          refine norm_ (a' := ?_) ?_ ?_
          rotate_left
          · show Act.put _ (some 25) _ = _
            simp only [Act.put, List.setIfInBounds_toArray, List.set_cons_zero, List.set_cons_succ]
            rfl
          refine pure_ (i := 5) (N := (some 20)) (v := ?_) (a' := ?_) #[true, true, true, true, true, true, false, false, true, false, false] rfl rfl (by kernel_rfl) (fun _ _ _ h => h) (Or.inl ⟨by rfl, ?_⟩) ?_ ?_
          rotate_left
          · intro w'
            go_simp
            with_reducible rfl
          rotate_left
          · simp only [Act.put, List.setIfInBounds_toArray, List.set_cons_zero, List.set_cons_succ]
            rfl
          refine pure_ (i := 6) (N := (some 26)) (v := ?_) (a' := ?_) #[true, true, true, true, true, true, true, false, true, false, false] rfl rfl (by kernel_rfl) (fun _ _ _ h => h) (Or.inl ⟨by rfl, ?_⟩) ?_ ?_
          rotate_left
          · intro w'
            go_simp
            with_reducible rfl
          rotate_left
          · simp only [Act.put, List.setIfInBounds_toArray, List.set_cons_zero, List.set_cons_succ]
            rfl
          refine pure_ (i := 7) (N := (some 27)) (v := ?_) (a' := ?_) #[true, true, true, true, true, true, true, true, true, false, false] rfl rfl (by kernel_rfl) (fun _ _ _ h => h) (Or.inl ⟨by rfl, ?_⟩) ?_ ?_
          rotate_left
          · intro w'
            go_simp
            with_reducible rfl
          rotate_left
          · simp only [Act.put, List.setIfInBounds_toArray, List.set_cons_zero, List.set_cons_succ]
            rfl
          exact norm_ (by simp only [putAll, Act.put, List.setIfInBounds_toArray, List.set_cons_zero, List.set_cons_succ]) (hC _ _ ⟨hI, hN⟩)
      · skip
        refine value_ (w1 := ?_) (v := ?_) (by rfl) rfl ?_ ?_
        rotate_left 2
        · go_simp
          constructor
          · rfl
          · rfl
        have hN := New.made hI (.cells #[.int .i64 0, .int .i64 0, .string (⟨#[]⟩ : ByteArray)] 26 (0, 0))
        refine hK.out _ _ (hI.alloc _) (fun hI' => ?_)
        clear hK K hI
        have hI := hI'
        clear hI'
        refine norm_ (a' := ?_) ?_ ?_
        rotate_left
        · show Act.put _ (some 6) _ = _
          simp only [Act.put, List.setIfInBounds_toArray, List.set_cons_zero, List.set_cons_succ]
          rfl
        refine one_ (i := 3) (N := (some 24)) #[true, true, true, true, false, false, false, false, true, false, false] rfl rfl (by kernel_rfl) (by decide) (fun K hK => ?_)
        refine goes_ Try.func17 (by kernel_rfl) rfl #[.agg #[.int .i64 bk, .int .i64 bn, .string bu]] (by rfl) rfl rfl (by (try simp only [List.map_toArray, List.map_cons, List.map_nil]); first | done | rfl) ?_
        refine (toV _ _ _ _).mono ?_
        rintro e w8 ⟨rfl, hb⟩
        refine ⟨_, rfl, ?_⟩
        replace hN := hN.step hb
        refine hK.out _ _ (hI.step hb) (fun hI' => ?_)
        clear hK K hb hI
        have hI := hI'
        clear hI'
        refine norm_ (a' := ?_) ?_ ?_
        rotate_left
        · show Act.put _ (some 24) _ = _
          simp only [Act.put, List.setIfInBounds_toArray, List.set_cons_zero, List.set_cons_succ]
          rfl
        refine one_ (i := 4) (N := (some 25)) #[true, true, true, true, true, false, false, false, true, false, false] rfl rfl (by kernel_rfl) (by decide) (fun K hK => ?_)
        refine goes_ Try.func30 (by kernel_rfl) rfl #[.agg #[.int .i64 ak, .int .i64 an, .string au], .agg #[.int .i64 bk, .int .i64 bn, .string bu]] (by rfl) rfl rfl (by (try simp only [List.map_toArray, List.map_cons, List.map_nil]); first | done | rfl) ?_
        refine (mul04 _ _ _ _ _ _ _).mono ?_
        rintro e w9 ⟨rfl, hb⟩
        refine ⟨_, rfl, ?_⟩
        replace hN := hN.step hb
        refine hK.out _ _ (hI.step hb) (fun hI' => ?_)
        clear hK K hb hI
        have hI := hI'
        clear hI'
        refine norm_ (a' := ?_) ?_ ?_
        rotate_left
        · show Act.put _ (some 25) _ = _
          simp only [Act.put, List.setIfInBounds_toArray, List.set_cons_zero, List.set_cons_succ]
          rfl
        refine pure_ (i := 5) (N := (some 20)) (v := ?_) (a' := ?_) #[true, true, true, true, true, true, false, false, true, false, false] rfl rfl (by kernel_rfl) (fun _ _ _ h => h) (Or.inl ⟨by rfl, ?_⟩) ?_ ?_
        rotate_left
        · intro w'
          go_simp
          with_reducible rfl
        rotate_left
        · simp only [Act.put, List.setIfInBounds_toArray, List.set_cons_zero, List.set_cons_succ]
          rfl
        refine pure_ (i := 6) (N := (some 26)) (v := ?_) (a' := ?_) #[true, true, true, true, true, true, true, false, true, false, false] rfl rfl (by kernel_rfl) (fun _ _ _ h => h) (Or.inl ⟨by rfl, ?_⟩) ?_ ?_
        rotate_left
        · intro w'
          go_simp
          with_reducible rfl
        rotate_left
        · simp only [Act.put, List.setIfInBounds_toArray, List.set_cons_zero, List.set_cons_succ]
          rfl
        refine pure_ (i := 7) (N := (some 27)) (v := ?_) (a' := ?_) #[true, true, true, true, true, true, true, true, true, false, false] rfl rfl (by kernel_rfl) (fun _ _ _ h => h) (Or.inl ⟨by rfl, ?_⟩) ?_ ?_
        rotate_left
        · intro w'
          go_simp
          with_reducible rfl
        rotate_left
        · simp only [Act.put, List.setIfInBounds_toArray, List.set_cons_zero, List.set_cons_succ]
          rfl
        exact norm_ (by simp only [putAll, Act.put, List.setIfInBounds_toArray, List.set_cons_zero, List.set_cons_succ]) (hC _ _ ⟨hI, hN⟩)
    · skip
      refine value_ (w1 := ?_) (v := ?_) (by rfl) rfl ?_ ?_
      rotate_left 2
      · go_simp
        constructor
        · rfl
        · rfl
      have hN := New.made hI (.cells #[.int .i64 0, .int .i64 0, .string (⟨#[]⟩ : ByteArray)] 26 (0, 0))
      refine hK.out _ _ (hI.alloc _) (fun hI' => ?_)
      clear hK K hI
      have hI := hI'
      clear hI'
      refine norm_ (a' := ?_) ?_ ?_
      rotate_left
      · show Act.put _ (some 6) _ = _
        simp only [Act.put, List.setIfInBounds_toArray, List.set_cons_zero, List.set_cons_succ]
        rfl
      refine one_ (i := 1) (N := (some 22)) #[true, true, true, false, false, false, false, false, true, false, false] rfl rfl (by kernel_rfl) (by decide) (fun K hK => ?_)
      refine goes_ Try.func17 (by kernel_rfl) rfl #[.agg #[.int .i64 ak, .int .i64 an, .string au]] (by rfl) rfl rfl (by (try simp only [List.map_toArray, List.map_cons, List.map_nil]); first | done | rfl) ?_
      refine (toV _ _ _ _).mono ?_
      rintro e w10 ⟨rfl, hb⟩
      refine ⟨_, rfl, ?_⟩
      replace hN := hN.step hb
      refine hK.out _ _ (hI.step hb) (fun hI' => ?_)
      clear hK K hb hI
      have hI := hI'
      clear hI'
      refine norm_ (a' := ?_) ?_ ?_
      rotate_left
      · show Act.put _ (some 22) _ = _
        simp only [Act.put, List.setIfInBounds_toArray, List.set_cons_zero, List.set_cons_succ]
        rfl
      refine one_ (i := 3) (N := (some 24)) #[true, true, true, true, false, false, false, false, true, false, false] rfl rfl (by kernel_rfl) (by decide) (fun K hK => ?_)
      refine goes_ Try.func17 (by kernel_rfl) rfl #[.agg #[.int .i64 bk, .int .i64 bn, .string bu]] (by rfl) rfl rfl (by (try simp only [List.map_toArray, List.map_cons, List.map_nil]); first | done | rfl) ?_
      refine (toV _ _ _ _).mono ?_
      rintro e w11 ⟨rfl, hb⟩
      refine ⟨_, rfl, ?_⟩
      replace hN := hN.step hb
      refine hK.out _ _ (hI.step hb) (fun hI' => ?_)
      clear hK K hb hI
      have hI := hI'
      clear hI'
      refine norm_ (a' := ?_) ?_ ?_
      rotate_left
      · show Act.put _ (some 24) _ = _
        simp only [Act.put, List.setIfInBounds_toArray, List.set_cons_zero, List.set_cons_succ]
        rfl
      refine one_ (i := 4) (N := (some 25)) #[true, true, true, true, true, false, false, false, true, false, false] rfl rfl (by kernel_rfl) (by decide) (fun K hK => ?_)
      refine goes_ Try.func30 (by kernel_rfl) rfl #[.agg #[.int .i64 ak, .int .i64 an, .string au], .agg #[.int .i64 bk, .int .i64 bn, .string bu]] (by rfl) rfl rfl (by (try simp only [List.map_toArray, List.map_cons, List.map_nil]); first | done | rfl) ?_
      refine (mul04 _ _ _ _ _ _ _).mono ?_
      rintro e w12 ⟨rfl, hb⟩
      refine ⟨_, rfl, ?_⟩
      replace hN := hN.step hb
      refine hK.out _ _ (hI.step hb) (fun hI' => ?_)
      clear hK K hb hI
      have hI := hI'
      clear hI'
      refine norm_ (a' := ?_) ?_ ?_
      rotate_left
      · show Act.put _ (some 25) _ = _
        simp only [Act.put, List.setIfInBounds_toArray, List.set_cons_zero, List.set_cons_succ]
        rfl
      refine pure_ (i := 5) (N := (some 20)) (v := ?_) (a' := ?_) #[true, true, true, true, true, true, false, false, true, false, false] rfl rfl (by kernel_rfl) (fun _ _ _ h => h) (Or.inl ⟨by rfl, ?_⟩) ?_ ?_
      rotate_left
      · intro w'
        go_simp
        with_reducible rfl
      rotate_left
      · simp only [Act.put, List.setIfInBounds_toArray, List.set_cons_zero, List.set_cons_succ]
        rfl
      refine pure_ (i := 6) (N := (some 26)) (v := ?_) (a' := ?_) #[true, true, true, true, true, true, true, false, true, false, false] rfl rfl (by kernel_rfl) (fun _ _ _ h => h) (Or.inl ⟨by rfl, ?_⟩) ?_ ?_
      rotate_left
      · intro w'
        go_simp
        with_reducible rfl
      rotate_left
      · simp only [Act.put, List.setIfInBounds_toArray, List.set_cons_zero, List.set_cons_succ]
        rfl
      refine pure_ (i := 7) (N := (some 27)) (v := ?_) (a' := ?_) #[true, true, true, true, true, true, true, true, true, false, false] rfl rfl (by kernel_rfl) (fun _ _ _ h => h) (Or.inl ⟨by rfl, ?_⟩) ?_ ?_
      rotate_left
      · intro w'
        go_simp
        with_reducible rfl
      rotate_left
      · simp only [Act.put, List.setIfInBounds_toArray, List.set_cons_zero, List.set_cons_succ]
        rfl
      exact norm_ (by simp only [putAll, Act.put, List.setIfInBounds_toArray, List.set_cons_zero, List.set_cons_succ]) (hC _ _ ⟨hI, hN⟩)
  rintro g3 w13 ⟨hI', hN⟩
  clear hI
  have hI := hI'
  clear hI'
  refine norm_ (a' := ?_) ?_ ?_
  rotate_left
  · simp only [putAll, Act.put, List.setIfInBounds_toArray, List.set_cons_zero, List.set_cons_succ]
    rfl
  refine one_ (i := 9) (N := none) #[true, true, true, true, true, true, true, true, true, true, false] rfl rfl (by kernel_rfl) (by decide) (fun K hK => ?_)
  refine skip_ (w1 := ?_) (by rfl) rfl ?_ ?_
  rotate_left
  · have c := hN.cell
    have f := hN.free
    go_simp
    rfl
  refine hK.out _ _ (New.inv3 hI hN _ _ _) (fun hI' => ?_)
  clear hK K
  have hN' := hN.put3 (u0 := .int .i64 (arV (· * ·) ⟨ak, an, au⟩ ⟨bk, bn, bu⟩).k) (u1 := .int .i64 (arV (· * ·) ⟨ak, an, au⟩ ⟨bk, bn, bu⟩).n) (u2 := .string (arV (· * ·) ⟨ak, an, au⟩ ⟨bk, bn, bu⟩).s)
  have hI2 := hI'.cons hN'.blk
  clear hI hI' hN hN'
  have hI := hI2
  clear hI2
  refine pure_ (i := 10) (N := (some 7)) (v := ?_) (a' := ?_) #[true, true, true, true, true, true, true, true, true, true, true] rfl rfl (by kernel_rfl) (fun _ _ _ h => h) (Or.inl ⟨by rfl, ?_⟩) ?_ ?_
  rotate_left
  · intro w'
    go_simp
    with_reducible rfl
  rotate_left
  · simp only [Act.put, List.setIfInBounds_toArray, List.set_cons_zero, List.set_cons_succ]
    rfl
  refine done_ (by kernel_rfl) ?_
  generalize (((w13.setCell ⟨g3, 0, none⟩ (.int .i64 (arV (· * ·) ⟨ak, an, au⟩ ⟨bk, bn, bu⟩).k)).setCell ⟨g3, 1, none⟩ (.int .i64 (arV (· * ·) ⟨ak, an, au⟩ ⟨bk, bn, bu⟩).n)).setCell ⟨g3, 2, none⟩ (.string (arV (· * ·) ⟨ak, an, au⟩ ⟨bk, bn, bu⟩).s)) = w14 at hI ⊢
  have hI4 := hI
  clear hI
  have x4_0 := hI4.cell 0 rfl
  have y4_0 := hI4.lt 0 rfl
  have x4_1 := hI4.cell 1 rfl
  have y4_1 := hI4.lt 1 rfl
  have x4_2 := hI4.cell 2 rfl
  have y4_2 := hI4.lt 2 rfl
  go_wp2_with fail
  have hI5 := hI4
  clear x4_0 y4_0 x4_1 y4_1 x4_2 y4_2 hI4
  refine start_ (n := 11) (S := Inv w [(g3, .cells #[.int .i64 (arV (· * ·) ⟨ak, an, au⟩ ⟨bk, bn, bu⟩).k, .int .i64 (arV (· * ·) ⟨ak, an, au⟩ ⟨bk, bn, bu⟩).n, .string (arV (· * ·) ⟨ak, an, au⟩ ⟨bk, bn, bu⟩).s] 26 (0, 0)), (w.heap.size + 1, .cells #[.int .i64 bk, .int .i64 bn, .string bu] 24 (0, 0)), (w.heap.size, .cells #[.int .i64 ak, .int .i64 an, .string au] 24 (0, 0))]) (ds := []) #[false, false, false, false, false, false, false, false, false, false, false] (by kernel_rfl) rfl rfl hI5.drew (fun hI => ?_)
  clear hI5
  generalize World.drew _ = w15 at hI ⊢
  refine take_ (i := 0) (N := (some 29)) (v := ?_) (a' := ?_) #[true, false, false, false, false, false, false, false, false, false, false] rfl rfl (by kernel_rfl) (fun _ _ _ h => h) (Or.inl ⟨by rfl, ?_⟩) hI ?_ ?_
  rotate_left
  · intro w' h'
    have x := h'.cell 2 rfl
    go_simp
    with_reducible rfl
  rotate_left
  · simp only [Act.put, List.setIfInBounds_toArray, List.set_cons_zero, List.set_cons_succ]
    rfl
  refine take_ (i := 2) (N := (some 31)) (v := ?_) (a' := ?_) #[true, false, true, false, false, false, false, false, false, false, false] rfl rfl (by kernel_rfl) (fun _ _ _ h => h) (Or.inl ⟨by rfl, ?_⟩) hI ?_ ?_
  rotate_left
  · intro w' h'
    have x := h'.cell 1 rfl
    go_simp
    with_reducible rfl
  rotate_left
  · simp only [Act.put, List.setIfInBounds_toArray, List.set_cons_zero, List.set_cons_succ]
    rfl
  refine join_ (σ := Nat) 2 #[true, true, true, true, true, true, true, true, true, false, false] (fun g_ => [(30, .agg #[.int .i64 ak, .int .i64 an, .string au]), (32, .agg #[.int .i64 bk, .int .i64 bn, .string bu]), (33, .tuple #[.agg #[.int .i64 (arV (· * ·) ⟨ak, an, au⟩ ⟨bk, bn, bu⟩).k, .int .i64 (arV (· * ·) ⟨ak, an, au⟩ ⟨bk, bn, bu⟩).n, .string (arV (· * ·) ⟨ak, an, au⟩ ⟨bk, bn, bu⟩).s], .int .i64 (arT (· * ·) ⟨ak, an, au⟩ ⟨bk, bn, bu⟩)]), (28, .tuple #[.agg #[.int .i64 (arV (· * ·) ⟨ak, an, au⟩ ⟨bk, bn, bu⟩).k, .int .i64 (arV (· * ·) ⟨ak, an, au⟩ ⟨bk, bn, bu⟩).n, .string (arV (· * ·) ⟨ak, an, au⟩ ⟨bk, bn, bu⟩).s], .int .i64 (arT (· * ·) ⟨ak, an, au⟩ ⟨bk, bn, bu⟩)]), (34, .agg #[.int .i64 (arV (· * ·) ⟨ak, an, au⟩ ⟨bk, bn, bu⟩).k, .int .i64 (arV (· * ·) ⟨ak, an, au⟩ ⟨bk, bn, bu⟩).n, .string (arV (· * ·) ⟨ak, an, au⟩ ⟨bk, bn, bu⟩).s]), (35, .int .i64 (arT (· * ·) ⟨ak, an, au⟩ ⟨bk, bn, bu⟩)), (8, .pointer (some ⟨g_, 0, none⟩))]) (fun g_ w' => Inv w [(g3, .cells #[.int .i64 (arV (· * ·) ⟨ak, an, au⟩ ⟨bk, bn, bu⟩).k, .int .i64 (arV (· * ·) ⟨ak, an, au⟩ ⟨bk, bn, bu⟩).n, .string (arV (· * ·) ⟨ak, an, au⟩ ⟨bk, bn, bu⟩).s] 26 (0, 0)), (w.heap.size + 1, .cells #[.int .i64 bk, .int .i64 bn, .string bu] 24 (0, 0)), (w.heap.size, .cells #[.int .i64 ak, .int .i64 an, .string au] 24 (0, 0))] w' ∧ New w [(g3, .cells #[.int .i64 (arV (· * ·) ⟨ak, an, au⟩ ⟨bk, bn, bu⟩).k, .int .i64 (arV (· * ·) ⟨ak, an, au⟩ ⟨bk, bn, bu⟩).n, .string (arV (· * ·) ⟨ak, an, au⟩ ⟨bk, bn, bu⟩).s] 26 (0, 0)), (w.heap.size + 1, .cells #[.int .i64 bk, .int .i64 bn, .string bu] 24 (0, 0)), (w.heap.size, .cells #[.int .i64 ak, .int .i64 an, .string au] 24 (0, 0))] g_ (.cells #[.int .i64 0, .int .i64 0, .string (⟨#[]⟩ : ByteArray)] 26 (0, 0)) w') ?_ ?_
  rotate_left
  · intro hC
    refine two_ (i := 1) (j := 8) (Ni := (some 30)) (Nj := (some 8)) #[true, true, true, false, false, false, false, false, false, false, false] #[true, false, true, false, false, false, false, false, true, false, false] rfl rfl rfl rfl (by kernel_rfl) (by decide) (by decide) (fun K hK => ?_) (fun K hK => ?_)
    · skip
      refine goes_ Try.func17 (by kernel_rfl) rfl #[.agg #[.int .i64 ak, .int .i64 an, .string au]] (by rfl) rfl rfl (by (try simp only [List.map_toArray, List.map_cons, List.map_nil]); first | done | rfl) ?_
      refine (toV _ _ _ _).mono ?_
      rintro e w16 ⟨rfl, hb⟩
      refine ⟨_, rfl, ?_⟩
      refine hK.out _ _ (hI.step hb) (fun hI' => ?_)
      clear hK K hb hI
      have hI := hI'
      clear hI'
      refine norm_ (a' := ?_) ?_ ?_
      rotate_left
      · show Act.put _ (some 30) _ = _
        simp only [Act.put, List.setIfInBounds_toArray, List.set_cons_zero, List.set_cons_succ]
        rfl
      refine two_ (i := 3) (j := 8) (Ni := (some 32)) (Nj := (some 8)) #[true, true, true, true, false, false, false, false, false, false, false] #[true, true, true, false, false, false, false, false, true, false, false] rfl rfl rfl rfl (by kernel_rfl) (by decide) (by decide) (fun K hK => ?_) (fun K hK => ?_)
      · skip
        refine goes_ Try.func17 (by kernel_rfl) rfl #[.agg #[.int .i64 bk, .int .i64 bn, .string bu]] (by rfl) rfl rfl (by (try simp only [List.map_toArray, List.map_cons, List.map_nil]); first | done | rfl) ?_
        refine (toV _ _ _ _).mono ?_
        rintro e w17 ⟨rfl, hb⟩
        refine ⟨_, rfl, ?_⟩
        refine hK.out _ _ (hI.step hb) (fun hI' => ?_)
        clear hK K hb hI
        have hI := hI'
        clear hI'
        refine norm_ (a' := ?_) ?_ ?_
        rotate_left
        · show Act.put _ (some 32) _ = _
          simp only [Act.put, List.setIfInBounds_toArray, List.set_cons_zero, List.set_cons_succ]
          rfl
        refine two_ (i := 4) (j := 8) (Ni := (some 33)) (Nj := (some 8)) #[true, true, true, true, true, false, false, false, false, false, false] #[true, true, true, true, false, false, false, false, true, false, false] rfl rfl rfl rfl (by kernel_rfl) (by decide) (by decide) (fun K hK => ?_) (fun K hK => ?_)
        · skip
          refine goes_ Try.func31 (by kernel_rfl) rfl #[.agg #[.int .i64 ak, .int .i64 an, .string au], .agg #[.int .i64 bk, .int .i64 bn, .string bu]] (by rfl) rfl rfl (by (try simp only [List.map_toArray, List.map_cons, List.map_nil]); first | done | rfl) ?_
          refine (mulI _ _ _ _ _ _ _).mono ?_
          rintro e w18 ⟨rfl, hb⟩
          refine ⟨_, rfl, ?_⟩
          refine hK.out _ _ (hI.step hb) (fun hI' => ?_)
          clear hK K hb hI
          have hI := hI'
          clear hI'
          refine norm_ (a' := ?_) ?_ ?_
          rotate_left
          · show Act.put _ (some 33) _ = _
            simp only [Act.put, List.setIfInBounds_toArray, List.set_cons_zero, List.set_cons_succ]
            rfl
          refine pure_ (i := 5) (N := (some 28)) (v := ?_) (a' := ?_) #[true, true, true, true, true, true, false, false, false, false, false] rfl rfl (by kernel_rfl) (fun _ _ _ h => h) (Or.inl ⟨by rfl, ?_⟩) ?_ ?_
          rotate_left
          · intro w'
            go_simp
            with_reducible rfl
          rotate_left
          · simp only [Act.put, List.setIfInBounds_toArray, List.set_cons_zero, List.set_cons_succ]
            rfl
          refine pure_ (i := 6) (N := (some 34)) (v := ?_) (a' := ?_) #[true, true, true, true, true, true, true, false, false, false, false] rfl rfl (by kernel_rfl) (fun _ _ _ h => h) (Or.inl ⟨by rfl, ?_⟩) ?_ ?_
          rotate_left
          · intro w'
            go_simp
            with_reducible rfl
          rotate_left
          · simp only [Act.put, List.setIfInBounds_toArray, List.set_cons_zero, List.set_cons_succ]
            rfl
          refine pure_ (i := 7) (N := (some 35)) (v := ?_) (a' := ?_) #[true, true, true, true, true, true, true, true, false, false, false] rfl rfl (by kernel_rfl) (fun _ _ _ h => h) (Or.inl ⟨by rfl, ?_⟩) ?_ ?_
          rotate_left
          · intro w'
            go_simp
            with_reducible rfl
          rotate_left
          · simp only [Act.put, List.setIfInBounds_toArray, List.set_cons_zero, List.set_cons_succ]
            rfl
          refine one_ (i := 8) (N := (some 8)) #[true, true, true, true, true, true, true, true, true, false, false] rfl rfl (by kernel_rfl) (by decide) (fun K hK => ?_)
          refine value_ (w1 := ?_) (v := ?_) (by rfl) rfl ?_ ?_
          rotate_left 2
          · go_simp
            constructor
            · rfl
            · rfl
          have hN := New.made hI (.cells #[.int .i64 0, .int .i64 0, .string (⟨#[]⟩ : ByteArray)] 26 (0, 0))
          refine hK.out _ _ (hI.alloc _) (fun hI' => ?_)
          clear hK K hI
          have hI := hI'
          clear hI'
          refine norm_ (a' := ?_) ?_ ?_
          rotate_left
          · show Act.put _ (some 8) _ = _
            simp only [Act.put, List.setIfInBounds_toArray, List.set_cons_zero, List.set_cons_succ]
            rfl
          exact norm_ (by simp only [putAll, Act.put, List.setIfInBounds_toArray, List.set_cons_zero, List.set_cons_succ]) (hC _ _ ⟨hI, hN⟩)
        · skip
          refine value_ (w1 := ?_) (v := ?_) (by rfl) rfl ?_ ?_
          rotate_left 2
          · go_simp
            constructor
            · rfl
            · rfl
          have hN := New.made hI (.cells #[.int .i64 0, .int .i64 0, .string (⟨#[]⟩ : ByteArray)] 26 (0, 0))
          refine hK.out _ _ (hI.alloc _) (fun hI' => ?_)
          clear hK K hI
          have hI := hI'
          clear hI'
          refine norm_ (a' := ?_) ?_ ?_
          rotate_left
          · show Act.put _ (some 8) _ = _
            simp only [Act.put, List.setIfInBounds_toArray, List.set_cons_zero, List.set_cons_succ]
            rfl
          refine one_ (i := 4) (N := (some 33)) #[true, true, true, true, true, false, false, false, true, false, false] rfl rfl (by kernel_rfl) (by decide) (fun K hK => ?_)
          refine goes_ Try.func31 (by kernel_rfl) rfl #[.agg #[.int .i64 ak, .int .i64 an, .string au], .agg #[.int .i64 bk, .int .i64 bn, .string bu]] (by rfl) rfl rfl (by (try simp only [List.map_toArray, List.map_cons, List.map_nil]); first | done | rfl) ?_
          refine (mulI _ _ _ _ _ _ _).mono ?_
          rintro e w19 ⟨rfl, hb⟩
          refine ⟨_, rfl, ?_⟩
          replace hN := hN.step hb
          refine hK.out _ _ (hI.step hb) (fun hI' => ?_)
          clear hK K hb hI
          have hI := hI'
          clear hI'
          refine norm_ (a' := ?_) ?_ ?_
          rotate_left
          · show Act.put _ (some 33) _ = _
            simp only [Act.put, List.setIfInBounds_toArray, List.set_cons_zero, List.set_cons_succ]
            rfl
          refine pure_ (i := 5) (N := (some 28)) (v := ?_) (a' := ?_) #[true, true, true, true, true, true, false, false, true, false, false] rfl rfl (by kernel_rfl) (fun _ _ _ h => h) (Or.inl ⟨by rfl, ?_⟩) ?_ ?_
          rotate_left
          · intro w'
            go_simp
            with_reducible rfl
          rotate_left
          · simp only [Act.put, List.setIfInBounds_toArray, List.set_cons_zero, List.set_cons_succ]
            rfl
          refine pure_ (i := 6) (N := (some 34)) (v := ?_) (a' := ?_) #[true, true, true, true, true, true, true, false, true, false, false] rfl rfl (by kernel_rfl) (fun _ _ _ h => h) (Or.inl ⟨by rfl, ?_⟩) ?_ ?_
          rotate_left
          · intro w'
            go_simp
            with_reducible rfl
          rotate_left
          · simp only [Act.put, List.setIfInBounds_toArray, List.set_cons_zero, List.set_cons_succ]
            rfl
          refine pure_ (i := 7) (N := (some 35)) (v := ?_) (a' := ?_) #[true, true, true, true, true, true, true, true, true, false, false] rfl rfl (by kernel_rfl) (fun _ _ _ h => h) (Or.inl ⟨by rfl, ?_⟩) ?_ ?_
          rotate_left
          · intro w'
            go_simp
            with_reducible rfl
          rotate_left
          · simp only [Act.put, List.setIfInBounds_toArray, List.set_cons_zero, List.set_cons_succ]
            rfl
          exact norm_ (by simp only [putAll, Act.put, List.setIfInBounds_toArray, List.set_cons_zero, List.set_cons_succ]) (hC _ _ ⟨hI, hN⟩)
      · skip
        refine value_ (w1 := ?_) (v := ?_) (by rfl) rfl ?_ ?_
        rotate_left 2
        · go_simp
          constructor
          · rfl
          · rfl
        have hN := New.made hI (.cells #[.int .i64 0, .int .i64 0, .string (⟨#[]⟩ : ByteArray)] 26 (0, 0))
        refine hK.out _ _ (hI.alloc _) (fun hI' => ?_)
        clear hK K hI
        have hI := hI'
        clear hI'
        refine norm_ (a' := ?_) ?_ ?_
        rotate_left
        · show Act.put _ (some 8) _ = _
          simp only [Act.put, List.setIfInBounds_toArray, List.set_cons_zero, List.set_cons_succ]
          rfl
        refine one_ (i := 3) (N := (some 32)) #[true, true, true, true, false, false, false, false, true, false, false] rfl rfl (by kernel_rfl) (by decide) (fun K hK => ?_)
        refine goes_ Try.func17 (by kernel_rfl) rfl #[.agg #[.int .i64 bk, .int .i64 bn, .string bu]] (by rfl) rfl rfl (by (try simp only [List.map_toArray, List.map_cons, List.map_nil]); first | done | rfl) ?_
        refine (toV _ _ _ _).mono ?_
        rintro e w20 ⟨rfl, hb⟩
        refine ⟨_, rfl, ?_⟩
        replace hN := hN.step hb
        refine hK.out _ _ (hI.step hb) (fun hI' => ?_)
        clear hK K hb hI
        have hI := hI'
        clear hI'
        refine norm_ (a' := ?_) ?_ ?_
        rotate_left
        · show Act.put _ (some 32) _ = _
          simp only [Act.put, List.setIfInBounds_toArray, List.set_cons_zero, List.set_cons_succ]
          rfl
        refine one_ (i := 4) (N := (some 33)) #[true, true, true, true, true, false, false, false, true, false, false] rfl rfl (by kernel_rfl) (by decide) (fun K hK => ?_)
        refine goes_ Try.func31 (by kernel_rfl) rfl #[.agg #[.int .i64 ak, .int .i64 an, .string au], .agg #[.int .i64 bk, .int .i64 bn, .string bu]] (by rfl) rfl rfl (by (try simp only [List.map_toArray, List.map_cons, List.map_nil]); first | done | rfl) ?_
        refine (mulI _ _ _ _ _ _ _).mono ?_
        rintro e w21 ⟨rfl, hb⟩
        refine ⟨_, rfl, ?_⟩
        replace hN := hN.step hb
        refine hK.out _ _ (hI.step hb) (fun hI' => ?_)
        clear hK K hb hI
        have hI := hI'
        clear hI'
        refine norm_ (a' := ?_) ?_ ?_
        rotate_left
        · show Act.put _ (some 33) _ = _
          simp only [Act.put, List.setIfInBounds_toArray, List.set_cons_zero, List.set_cons_succ]
          rfl
        refine pure_ (i := 5) (N := (some 28)) (v := ?_) (a' := ?_) #[true, true, true, true, true, true, false, false, true, false, false] rfl rfl (by kernel_rfl) (fun _ _ _ h => h) (Or.inl ⟨by rfl, ?_⟩) ?_ ?_
        rotate_left
        · intro w'
          go_simp
          with_reducible rfl
        rotate_left
        · simp only [Act.put, List.setIfInBounds_toArray, List.set_cons_zero, List.set_cons_succ]
          rfl
        refine pure_ (i := 6) (N := (some 34)) (v := ?_) (a' := ?_) #[true, true, true, true, true, true, true, false, true, false, false] rfl rfl (by kernel_rfl) (fun _ _ _ h => h) (Or.inl ⟨by rfl, ?_⟩) ?_ ?_
        rotate_left
        · intro w'
          go_simp
          with_reducible rfl
        rotate_left
        · simp only [Act.put, List.setIfInBounds_toArray, List.set_cons_zero, List.set_cons_succ]
          rfl
        refine pure_ (i := 7) (N := (some 35)) (v := ?_) (a' := ?_) #[true, true, true, true, true, true, true, true, true, false, false] rfl rfl (by kernel_rfl) (fun _ _ _ h => h) (Or.inl ⟨by rfl, ?_⟩) ?_ ?_
        rotate_left
        · intro w'
          go_simp
          with_reducible rfl
        rotate_left
        · simp only [Act.put, List.setIfInBounds_toArray, List.set_cons_zero, List.set_cons_succ]
          rfl
        exact norm_ (by simp only [putAll, Act.put, List.setIfInBounds_toArray, List.set_cons_zero, List.set_cons_succ]) (hC _ _ ⟨hI, hN⟩)
    · skip
      refine value_ (w1 := ?_) (v := ?_) (by rfl) rfl ?_ ?_
      rotate_left 2
      · go_simp
        constructor
        · rfl
        · rfl
      have hN := New.made hI (.cells #[.int .i64 0, .int .i64 0, .string (⟨#[]⟩ : ByteArray)] 26 (0, 0))
      refine hK.out _ _ (hI.alloc _) (fun hI' => ?_)
      clear hK K hI
      have hI := hI'
      clear hI'
      refine norm_ (a' := ?_) ?_ ?_
      rotate_left
      · show Act.put _ (some 8) _ = _
        simp only [Act.put, List.setIfInBounds_toArray, List.set_cons_zero, List.set_cons_succ]
        rfl
      refine one_ (i := 1) (N := (some 30)) #[true, true, true, false, false, false, false, false, true, false, false] rfl rfl (by kernel_rfl) (by decide) (fun K hK => ?_)
      refine goes_ Try.func17 (by kernel_rfl) rfl #[.agg #[.int .i64 ak, .int .i64 an, .string au]] (by rfl) rfl rfl (by (try simp only [List.map_toArray, List.map_cons, List.map_nil]); first | done | rfl) ?_
      refine (toV _ _ _ _).mono ?_
      rintro e w22 ⟨rfl, hb⟩
      refine ⟨_, rfl, ?_⟩
      replace hN := hN.step hb
      refine hK.out _ _ (hI.step hb) (fun hI' => ?_)
      clear hK K hb hI
      have hI := hI'
      clear hI'
      refine norm_ (a' := ?_) ?_ ?_
      rotate_left
      · show Act.put _ (some 30) _ = _
        simp only [Act.put, List.setIfInBounds_toArray, List.set_cons_zero, List.set_cons_succ]
        rfl
      refine one_ (i := 3) (N := (some 32)) #[true, true, true, true, false, false, false, false, true, false, false] rfl rfl (by kernel_rfl) (by decide) (fun K hK => ?_)
      refine goes_ Try.func17 (by kernel_rfl) rfl #[.agg #[.int .i64 bk, .int .i64 bn, .string bu]] (by rfl) rfl rfl (by (try simp only [List.map_toArray, List.map_cons, List.map_nil]); first | done | rfl) ?_
      refine (toV _ _ _ _).mono ?_
      rintro e w23 ⟨rfl, hb⟩
      refine ⟨_, rfl, ?_⟩
      replace hN := hN.step hb
      refine hK.out _ _ (hI.step hb) (fun hI' => ?_)
      clear hK K hb hI
      have hI := hI'
      clear hI'
      refine norm_ (a' := ?_) ?_ ?_
      rotate_left
      · show Act.put _ (some 32) _ = _
        simp only [Act.put, List.setIfInBounds_toArray, List.set_cons_zero, List.set_cons_succ]
        rfl
      refine one_ (i := 4) (N := (some 33)) #[true, true, true, true, true, false, false, false, true, false, false] rfl rfl (by kernel_rfl) (by decide) (fun K hK => ?_)
      refine goes_ Try.func31 (by kernel_rfl) rfl #[.agg #[.int .i64 ak, .int .i64 an, .string au], .agg #[.int .i64 bk, .int .i64 bn, .string bu]] (by rfl) rfl rfl (by (try simp only [List.map_toArray, List.map_cons, List.map_nil]); first | done | rfl) ?_
      refine (mulI _ _ _ _ _ _ _).mono ?_
      rintro e w24 ⟨rfl, hb⟩
      refine ⟨_, rfl, ?_⟩
      replace hN := hN.step hb
      refine hK.out _ _ (hI.step hb) (fun hI' => ?_)
      clear hK K hb hI
      have hI := hI'
      clear hI'
      refine norm_ (a' := ?_) ?_ ?_
      rotate_left
      · show Act.put _ (some 33) _ = _
        simp only [Act.put, List.setIfInBounds_toArray, List.set_cons_zero, List.set_cons_succ]
        rfl
      refine pure_ (i := 5) (N := (some 28)) (v := ?_) (a' := ?_) #[true, true, true, true, true, true, false, false, true, false, false] rfl rfl (by kernel_rfl) (fun _ _ _ h => h) (Or.inl ⟨by rfl, ?_⟩) ?_ ?_
      rotate_left
      · intro w'
        go_simp
        with_reducible rfl
      rotate_left
      · simp only [Act.put, List.setIfInBounds_toArray, List.set_cons_zero, List.set_cons_succ]
        rfl
      refine pure_ (i := 6) (N := (some 34)) (v := ?_) (a' := ?_) #[true, true, true, true, true, true, true, false, true, false, false] rfl rfl (by kernel_rfl) (fun _ _ _ h => h) (Or.inl ⟨by rfl, ?_⟩) ?_ ?_
      rotate_left
      · intro w'
        go_simp
        with_reducible rfl
      rotate_left
      · simp only [Act.put, List.setIfInBounds_toArray, List.set_cons_zero, List.set_cons_succ]
        rfl
      refine pure_ (i := 7) (N := (some 35)) (v := ?_) (a' := ?_) #[true, true, true, true, true, true, true, true, true, false, false] rfl rfl (by kernel_rfl) (fun _ _ _ h => h) (Or.inl ⟨by rfl, ?_⟩) ?_ ?_
      rotate_left
      · intro w'
        go_simp
        with_reducible rfl
      rotate_left
      · simp only [Act.put, List.setIfInBounds_toArray, List.set_cons_zero, List.set_cons_succ]
        rfl
      exact norm_ (by simp only [putAll, Act.put, List.setIfInBounds_toArray, List.set_cons_zero, List.set_cons_succ]) (hC _ _ ⟨hI, hN⟩)
  rintro g5 w25 ⟨hI', hN⟩
  clear hI
  have hI := hI'
  clear hI'
  refine norm_ (a' := ?_) ?_ ?_
  rotate_left
  · simp only [putAll, Act.put, List.setIfInBounds_toArray, List.set_cons_zero, List.set_cons_succ]
    rfl
  refine one_ (i := 9) (N := none) #[true, true, true, true, true, true, true, true, true, true, false] rfl rfl (by kernel_rfl) (by decide) (fun K hK => ?_)
  refine skip_ (w1 := ?_) (by rfl) rfl ?_ ?_
  rotate_left
  · have c := hN.cell
    have f := hN.free
    go_simp
    rfl
  refine hK.out _ _ (New.inv3 hI hN _ _ _) (fun hI' => ?_)
  clear hK K
  have hN' := hN.put3 (u0 := .int .i64 (arV (· * ·) ⟨ak, an, au⟩ ⟨bk, bn, bu⟩).k) (u1 := .int .i64 (arV (· * ·) ⟨ak, an, au⟩ ⟨bk, bn, bu⟩).n) (u2 := .string (arV (· * ·) ⟨ak, an, au⟩ ⟨bk, bn, bu⟩).s)
  have hI2 := hI'.cons hN'.blk
  clear hI hI' hN hN'
  have hI := hI2
  clear hI2
  refine pure_ (i := 10) (N := (some 9)) (v := ?_) (a' := ?_) #[true, true, true, true, true, true, true, true, true, true, true] rfl rfl (by kernel_rfl) (fun _ _ _ h => h) (Or.inl ⟨by rfl, ?_⟩) ?_ ?_
  rotate_left
  · intro w'
    go_simp
    with_reducible rfl
  rotate_left
  · simp only [Act.put, List.setIfInBounds_toArray, List.set_cons_zero, List.set_cons_succ]
    rfl
  refine done_ (by kernel_rfl) ?_
  generalize (((w25.setCell ⟨g5, 0, none⟩ (.int .i64 (arV (· * ·) ⟨ak, an, au⟩ ⟨bk, bn, bu⟩).k)).setCell ⟨g5, 1, none⟩ (.int .i64 (arV (· * ·) ⟨ak, an, au⟩ ⟨bk, bn, bu⟩).n)).setCell ⟨g5, 2, none⟩ (.string (arV (· * ·) ⟨ak, an, au⟩ ⟨bk, bn, bu⟩).s)) = w26 at hI ⊢
  have hI6 := hI
  clear hI
  have x6_0 := hI6.cell 0 rfl
  have y6_0 := hI6.lt 0 rfl
  have x6_1 := hI6.cell 1 rfl
  have y6_1 := hI6.lt 1 rfl
  have x6_2 := hI6.cell 2 rfl
  have y6_2 := hI6.lt 2 rfl
  have x6_3 := hI6.cell 3 rfl
  have y6_3 := hI6.lt 3 rfl
  go_wp2_with fail
  refine (eqV _ _ _ _).mono ?_
  rintro e w27 ⟨rfl, hb27⟩
  have hI7 := hI6.step hb27
  clear hb27 x6_0 y6_0 x6_1 y6_1 x6_2 y6_2 x6_3 y6_3 hI6
  have x7_0 := hI7.cell 0 rfl
  have y7_0 := hI7.lt 0 rfl
  have x7_1 := hI7.cell 1 rfl
  have y7_1 := hI7.lt 1 rfl
  have x7_2 := hI7.cell 2 rfl
  have y7_2 := hI7.lt 2 rfl
  have x7_3 := hI7.cell 3 rfl
  have y7_3 := hI7.lt 3 rfl
  go_wp2
  go_ret
  exact ⟨rfl, hI7.bel⟩
set_option maxHeartbeats 1000000 in
set_option maxRecDepth 100000 in
theorem subLaw (ak an : Int) (au : ByteArray) (bk bn : Int) (bu : ByteArray) (w : World) (ha1 : (Lit.int .i64 ak).wf = true) (ha2 : (Lit.int .i64 an).wf = true) (hma : au.size ≤ maxLen) (hb1 : (Lit.int .i64 bk).wf = true) (hb2 : (Lit.int .i64 bn).wf = true) (hmb : bu.size ≤ maxLen) : Calls Try.prog 9 #[.agg #[.int .i64 ak, .int .i64 an, .string au], .agg #[.int .i64 bk, .int .i64 bn, .string bu]] w fun e w' => e = .returned (.bool true) ∧ Below w.heap.size w w' := by
  clear ha1 ha2 hb1 hb2
  by_cases hsa : (au.size : Int) ≤ 1048576
  rotate_left
  · have hs := hsa
    go_enter Try.func9, Try.ntmps9
    go_wp2_with fail
    refine (szV_no ak an au (1048576) _ hma (by omega) (by omega) (by omega)).mono ?_
    rintro e w1 ⟨rfl, hb1⟩
    have hI1 := (((Inv.start w).made _ (w.heap.size) (by simp)).made _ (w.heap.size + 1) (by simp)).step hb1
    clear hb1
    have x1_0 := hI1.cell 0 rfl
    have y1_0 := hI1.lt 0 rfl
    have x1_1 := hI1.cell 1 rfl
    have y1_1 := hI1.lt 1 rfl
    go_wp2
    go_ret
    exact ⟨rfl, hI1.bel⟩
  have ga : 0 ≤ 1048576 - (au.size : Int) := by omega
  by_cases hsb : (bu.size : Int) ≤ 1048576 - (au.size : Int)
  rotate_left
  · have hs := hsb
    go_enter Try.func9, Try.ntmps9
    go_wp2_with fail
    refine (szV_ok ak an au (1048576) _ hma (by omega) (by omega) (by omega)).mono ?_
    rintro e w1 ⟨rfl, hb1⟩
    have hI1 := (((Inv.start w).made _ (w.heap.size) (by simp)).made _ (w.heap.size + 1) (by simp)).step hb1
    clear hb1
    have x1_0 := hI1.cell 0 rfl
    have y1_0 := hI1.lt 0 rfl
    have x1_1 := hI1.cell 1 rfl
    have y1_1 := hI1.lt 1 rfl
    go_wp2_with fail
    refine (szV_no bk bn bu (1048576 - (au.size : Int)) _ hmb (by omega) (by omega) (by omega)).mono ?_
    rintro e w2 ⟨rfl, hb2⟩
    have hI2 := hI1.step hb2
    clear hb2 x1_0 y1_0 x1_1 y1_1 hI1
    have x2_0 := hI2.cell 0 rfl
    have y2_0 := hI2.lt 0 rfl
    have x2_1 := hI2.cell 1 rfl
    have y2_1 := hI2.lt 1 rfl
    go_wp2
    go_ret
    exact ⟨rfl, hI2.bel⟩
  have gb : 0 ≤ 1048576 - (au.size : Int) - (bu.size : Int) := by omega
  go_enter Try.func9, Try.ntmps9
  go_wp2_with fail
  refine (szV_ok ak an au (1048576) _ hma (by omega) (by omega) (by omega)).mono ?_
  rintro e w1 ⟨rfl, hb1⟩
  have hI1 := (((Inv.start w).made _ (w.heap.size) (by simp)).made _ (w.heap.size + 1) (by simp)).step hb1
  clear hb1
  have x1_0 := hI1.cell 0 rfl
  have y1_0 := hI1.lt 0 rfl
  have x1_1 := hI1.cell 1 rfl
  have y1_1 := hI1.lt 1 rfl
  go_wp2_with fail
  refine (szV_ok bk bn bu (1048576 - (au.size : Int)) _ hmb (by omega) (by omega) (by omega)).mono ?_
  rintro e w2 ⟨rfl, hb2⟩
  have hI2 := hI1.step hb2
  clear hb2 x1_0 y1_0 x1_1 y1_1 hI1
  have x2_0 := hI2.cell 0 rfl
  have y2_0 := hI2.lt 0 rfl
  have x2_1 := hI2.cell 1 rfl
  have y2_1 := hI2.lt 1 rfl
  go_wp2_with fail
  have hI3 := hI2
  clear x2_0 y2_0 x2_1 y2_1 hI2
  refine start_ (n := 11) (S := Inv w [(w.heap.size + 1, .cells #[.int .i64 bk, .int .i64 bn, .string bu] 24 (0, 0)), (w.heap.size, .cells #[.int .i64 ak, .int .i64 an, .string au] 24 (0, 0))]) (ds := []) #[false, false, false, false, false, false, false, false, false, false, false] (by kernel_rfl) rfl rfl hI3.drew (fun hI => ?_)
  clear hI3
  generalize World.drew _ = w3 at hI ⊢
  refine take_ (i := 0) (N := (some 21)) (v := ?_) (a' := ?_) #[true, false, false, false, false, false, false, false, false, false, false] rfl rfl (by kernel_rfl) (fun _ _ _ h => h) (Or.inl ⟨by rfl, ?_⟩) hI ?_ ?_
  rotate_left
  · intro w' h'
    have x := h'.cell 1 rfl
    go_simp
    with_reducible rfl
  rotate_left
  · simp only [Act.put, List.setIfInBounds_toArray, List.set_cons_zero, List.set_cons_succ]
    rfl
  refine take_ (i := 2) (N := (some 23)) (v := ?_) (a' := ?_) #[true, false, true, false, false, false, false, false, false, false, false] rfl rfl (by kernel_rfl) (fun _ _ _ h => h) (Or.inl ⟨by rfl, ?_⟩) hI ?_ ?_
  rotate_left
  · intro w' h'
    have x := h'.cell 0 rfl
    go_simp
    with_reducible rfl
  rotate_left
  · simp only [Act.put, List.setIfInBounds_toArray, List.set_cons_zero, List.set_cons_succ]
    rfl
  refine join_ (σ := Nat) 2 #[true, true, true, true, true, true, true, true, true, false, false] (fun g_ => [(22, .agg #[.int .i64 ak, .int .i64 an, .string au]), (24, .agg #[.int .i64 bk, .int .i64 bn, .string bu]), (25, .tuple #[.agg #[.int .i64 (arV (· - ·) ⟨ak, an, au⟩ ⟨bk, bn, bu⟩).k, .int .i64 (arV (· - ·) ⟨ak, an, au⟩ ⟨bk, bn, bu⟩).n, .string (arV (· - ·) ⟨ak, an, au⟩ ⟨bk, bn, bu⟩).s], .int .i64 (arT (· - ·) ⟨ak, an, au⟩ ⟨bk, bn, bu⟩)]), (20, .tuple #[.agg #[.int .i64 (arV (· - ·) ⟨ak, an, au⟩ ⟨bk, bn, bu⟩).k, .int .i64 (arV (· - ·) ⟨ak, an, au⟩ ⟨bk, bn, bu⟩).n, .string (arV (· - ·) ⟨ak, an, au⟩ ⟨bk, bn, bu⟩).s], .int .i64 (arT (· - ·) ⟨ak, an, au⟩ ⟨bk, bn, bu⟩)]), (26, .agg #[.int .i64 (arV (· - ·) ⟨ak, an, au⟩ ⟨bk, bn, bu⟩).k, .int .i64 (arV (· - ·) ⟨ak, an, au⟩ ⟨bk, bn, bu⟩).n, .string (arV (· - ·) ⟨ak, an, au⟩ ⟨bk, bn, bu⟩).s]), (27, .int .i64 (arT (· - ·) ⟨ak, an, au⟩ ⟨bk, bn, bu⟩)), (6, .pointer (some ⟨g_, 0, none⟩))]) (fun g_ w' => Inv w [(w.heap.size + 1, .cells #[.int .i64 bk, .int .i64 bn, .string bu] 24 (0, 0)), (w.heap.size, .cells #[.int .i64 ak, .int .i64 an, .string au] 24 (0, 0))] w' ∧ New w [(w.heap.size + 1, .cells #[.int .i64 bk, .int .i64 bn, .string bu] 24 (0, 0)), (w.heap.size, .cells #[.int .i64 ak, .int .i64 an, .string au] 24 (0, 0))] g_ (.cells #[.int .i64 0, .int .i64 0, .string (⟨#[]⟩ : ByteArray)] 26 (0, 0)) w') ?_ ?_
  rotate_left
  · intro hC
    refine two_ (i := 1) (j := 8) (Ni := (some 22)) (Nj := (some 6)) #[true, true, true, false, false, false, false, false, false, false, false] #[true, false, true, false, false, false, false, false, true, false, false] rfl rfl rfl rfl (by kernel_rfl) (by decide) (by decide) (fun K hK => ?_) (fun K hK => ?_)
    · skip
      refine goes_ Try.func17 (by kernel_rfl) rfl #[.agg #[.int .i64 ak, .int .i64 an, .string au]] (by rfl) rfl rfl (by (try simp only [List.map_toArray, List.map_cons, List.map_nil]); first | done | rfl) ?_
      refine (toV _ _ _ _).mono ?_
      rintro e w4 ⟨rfl, hb⟩
      refine ⟨_, rfl, ?_⟩
      refine hK.out _ _ (hI.step hb) (fun hI' => ?_)
      clear hK K hb hI
      have hI := hI'
      clear hI'
      refine norm_ (a' := ?_) ?_ ?_
      rotate_left
      · show Act.put _ (some 22) _ = _
        simp only [Act.put, List.setIfInBounds_toArray, List.set_cons_zero, List.set_cons_succ]
        rfl
      refine two_ (i := 3) (j := 8) (Ni := (some 24)) (Nj := (some 6)) #[true, true, true, true, false, false, false, false, false, false, false] #[true, true, true, false, false, false, false, false, true, false, false] rfl rfl rfl rfl (by kernel_rfl) (by decide) (by decide) (fun K hK => ?_) (fun K hK => ?_)
      · skip
        refine goes_ Try.func17 (by kernel_rfl) rfl #[.agg #[.int .i64 bk, .int .i64 bn, .string bu]] (by rfl) rfl rfl (by (try simp only [List.map_toArray, List.map_cons, List.map_nil]); first | done | rfl) ?_
        refine (toV _ _ _ _).mono ?_
        rintro e w5 ⟨rfl, hb⟩
        refine ⟨_, rfl, ?_⟩
        refine hK.out _ _ (hI.step hb) (fun hI' => ?_)
        clear hK K hb hI
        have hI := hI'
        clear hI'
        refine norm_ (a' := ?_) ?_ ?_
        rotate_left
        · show Act.put _ (some 24) _ = _
          simp only [Act.put, List.setIfInBounds_toArray, List.set_cons_zero, List.set_cons_succ]
          rfl
        refine two_ (i := 4) (j := 8) (Ni := (some 25)) (Nj := (some 6)) #[true, true, true, true, true, false, false, false, false, false, false] #[true, true, true, true, false, false, false, false, true, false, false] rfl rfl rfl rfl (by kernel_rfl) (by decide) (by decide) (fun K hK => ?_) (fun K hK => ?_)
        · skip
          refine goes_ Try.func32 (by kernel_rfl) rfl #[.agg #[.int .i64 ak, .int .i64 an, .string au], .agg #[.int .i64 bk, .int .i64 bn, .string bu]] (by rfl) rfl rfl (by (try simp only [List.map_toArray, List.map_cons, List.map_nil]); first | done | rfl) ?_
          refine (sub04 _ _ _ _ _ _ _).mono ?_
          rintro e w6 ⟨rfl, hb⟩
          refine ⟨_, rfl, ?_⟩
          refine hK.out _ _ (hI.step hb) (fun hI' => ?_)
          clear hK K hb hI
          have hI := hI'
          clear hI'
          refine norm_ (a' := ?_) ?_ ?_
          rotate_left
          · show Act.put _ (some 25) _ = _
            simp only [Act.put, List.setIfInBounds_toArray, List.set_cons_zero, List.set_cons_succ]
            rfl
          refine pure_ (i := 5) (N := (some 20)) (v := ?_) (a' := ?_) #[true, true, true, true, true, true, false, false, false, false, false] rfl rfl (by kernel_rfl) (fun _ _ _ h => h) (Or.inl ⟨by rfl, ?_⟩) ?_ ?_
          rotate_left
          · intro w'
            go_simp
            with_reducible rfl
          rotate_left
          · simp only [Act.put, List.setIfInBounds_toArray, List.set_cons_zero, List.set_cons_succ]
            rfl
          refine pure_ (i := 6) (N := (some 26)) (v := ?_) (a' := ?_) #[true, true, true, true, true, true, true, false, false, false, false] rfl rfl (by kernel_rfl) (fun _ _ _ h => h) (Or.inl ⟨by rfl, ?_⟩) ?_ ?_
          rotate_left
          · intro w'
            go_simp
            with_reducible rfl
          rotate_left
          · simp only [Act.put, List.setIfInBounds_toArray, List.set_cons_zero, List.set_cons_succ]
            rfl
          refine pure_ (i := 7) (N := (some 27)) (v := ?_) (a' := ?_) #[true, true, true, true, true, true, true, true, false, false, false] rfl rfl (by kernel_rfl) (fun _ _ _ h => h) (Or.inl ⟨by rfl, ?_⟩) ?_ ?_
          rotate_left
          · intro w'
            go_simp
            with_reducible rfl
          rotate_left
          · simp only [Act.put, List.setIfInBounds_toArray, List.set_cons_zero, List.set_cons_succ]
            rfl
          refine one_ (i := 8) (N := (some 6)) #[true, true, true, true, true, true, true, true, true, false, false] rfl rfl (by kernel_rfl) (by decide) (fun K hK => ?_)
          refine value_ (w1 := ?_) (v := ?_) (by rfl) rfl ?_ ?_
          rotate_left 2
          · go_simp
            constructor
            · rfl
            · rfl
          have hN := New.made hI (.cells #[.int .i64 0, .int .i64 0, .string (⟨#[]⟩ : ByteArray)] 26 (0, 0))
          refine hK.out _ _ (hI.alloc _) (fun hI' => ?_)
          clear hK K hI
          have hI := hI'
          clear hI'
          refine norm_ (a' := ?_) ?_ ?_
          rotate_left
          · show Act.put _ (some 6) _ = _
            simp only [Act.put, List.setIfInBounds_toArray, List.set_cons_zero, List.set_cons_succ]
            rfl
          exact norm_ (by simp only [putAll, Act.put, List.setIfInBounds_toArray, List.set_cons_zero, List.set_cons_succ]) (hC _ _ ⟨hI, hN⟩)
        · skip
          refine value_ (w1 := ?_) (v := ?_) (by rfl) rfl ?_ ?_
          rotate_left 2
          · go_simp
            constructor
            · rfl
            · rfl
          have hN := New.made hI (.cells #[.int .i64 0, .int .i64 0, .string (⟨#[]⟩ : ByteArray)] 26 (0, 0))
          refine hK.out _ _ (hI.alloc _) (fun hI' => ?_)
          clear hK K hI
          have hI := hI'
          clear hI'
          refine norm_ (a' := ?_) ?_ ?_
          rotate_left
          · show Act.put _ (some 6) _ = _
            simp only [Act.put, List.setIfInBounds_toArray, List.set_cons_zero, List.set_cons_succ]
            rfl
          refine one_ (i := 4) (N := (some 25)) #[true, true, true, true, true, false, false, false, true, false, false] rfl rfl (by kernel_rfl) (by decide) (fun K hK => ?_)
          refine goes_ Try.func32 (by kernel_rfl) rfl #[.agg #[.int .i64 ak, .int .i64 an, .string au], .agg #[.int .i64 bk, .int .i64 bn, .string bu]] (by rfl) rfl rfl (by (try simp only [List.map_toArray, List.map_cons, List.map_nil]); first | done | rfl) ?_
          refine (sub04 _ _ _ _ _ _ _).mono ?_
          rintro e w7 ⟨rfl, hb⟩
          refine ⟨_, rfl, ?_⟩
          replace hN := hN.step hb
          refine hK.out _ _ (hI.step hb) (fun hI' => ?_)
          clear hK K hb hI
          have hI := hI'
          clear hI'
          refine norm_ (a' := ?_) ?_ ?_
          rotate_left
          · show Act.put _ (some 25) _ = _
            simp only [Act.put, List.setIfInBounds_toArray, List.set_cons_zero, List.set_cons_succ]
            rfl
          refine pure_ (i := 5) (N := (some 20)) (v := ?_) (a' := ?_) #[true, true, true, true, true, true, false, false, true, false, false] rfl rfl (by kernel_rfl) (fun _ _ _ h => h) (Or.inl ⟨by rfl, ?_⟩) ?_ ?_
          rotate_left
          · intro w'
            go_simp
            with_reducible rfl
          rotate_left
          · simp only [Act.put, List.setIfInBounds_toArray, List.set_cons_zero, List.set_cons_succ]
            rfl
          refine pure_ (i := 6) (N := (some 26)) (v := ?_) (a' := ?_) #[true, true, true, true, true, true, true, false, true, false, false] rfl rfl (by kernel_rfl) (fun _ _ _ h => h) (Or.inl ⟨by rfl, ?_⟩) ?_ ?_
          rotate_left
          · intro w'
            go_simp
            with_reducible rfl
          rotate_left
          · simp only [Act.put, List.setIfInBounds_toArray, List.set_cons_zero, List.set_cons_succ]
            rfl
          refine pure_ (i := 7) (N := (some 27)) (v := ?_) (a' := ?_) #[true, true, true, true, true, true, true, true, true, false, false] rfl rfl (by kernel_rfl) (fun _ _ _ h => h) (Or.inl ⟨by rfl, ?_⟩) ?_ ?_
          rotate_left
          · intro w'
            go_simp
            with_reducible rfl
          rotate_left
          · simp only [Act.put, List.setIfInBounds_toArray, List.set_cons_zero, List.set_cons_succ]
            rfl
          exact norm_ (by simp only [putAll, Act.put, List.setIfInBounds_toArray, List.set_cons_zero, List.set_cons_succ]) (hC _ _ ⟨hI, hN⟩)
      · skip
        refine value_ (w1 := ?_) (v := ?_) (by rfl) rfl ?_ ?_
        rotate_left 2
        · go_simp
          constructor
          · rfl
          · rfl
        have hN := New.made hI (.cells #[.int .i64 0, .int .i64 0, .string (⟨#[]⟩ : ByteArray)] 26 (0, 0))
        refine hK.out _ _ (hI.alloc _) (fun hI' => ?_)
        clear hK K hI
        have hI := hI'
        clear hI'
        refine norm_ (a' := ?_) ?_ ?_
        rotate_left
        · show Act.put _ (some 6) _ = _
          simp only [Act.put, List.setIfInBounds_toArray, List.set_cons_zero, List.set_cons_succ]
          rfl
        refine one_ (i := 3) (N := (some 24)) #[true, true, true, true, false, false, false, false, true, false, false] rfl rfl (by kernel_rfl) (by decide) (fun K hK => ?_)
        refine goes_ Try.func17 (by kernel_rfl) rfl #[.agg #[.int .i64 bk, .int .i64 bn, .string bu]] (by rfl) rfl rfl (by (try simp only [List.map_toArray, List.map_cons, List.map_nil]); first | done | rfl) ?_
        refine (toV _ _ _ _).mono ?_
        rintro e w8 ⟨rfl, hb⟩
        refine ⟨_, rfl, ?_⟩
        replace hN := hN.step hb
        refine hK.out _ _ (hI.step hb) (fun hI' => ?_)
        clear hK K hb hI
        have hI := hI'
        clear hI'
        refine norm_ (a' := ?_) ?_ ?_
        rotate_left
        · show Act.put _ (some 24) _ = _
          simp only [Act.put, List.setIfInBounds_toArray, List.set_cons_zero, List.set_cons_succ]
          rfl
        refine one_ (i := 4) (N := (some 25)) #[true, true, true, true, true, false, false, false, true, false, false] rfl rfl (by kernel_rfl) (by decide) (fun K hK => ?_)
        refine goes_ Try.func32 (by kernel_rfl) rfl #[.agg #[.int .i64 ak, .int .i64 an, .string au], .agg #[.int .i64 bk, .int .i64 bn, .string bu]] (by rfl) rfl rfl (by (try simp only [List.map_toArray, List.map_cons, List.map_nil]); first | done | rfl) ?_
        refine (sub04 _ _ _ _ _ _ _).mono ?_
        rintro e w9 ⟨rfl, hb⟩
        refine ⟨_, rfl, ?_⟩
        replace hN := hN.step hb
        refine hK.out _ _ (hI.step hb) (fun hI' => ?_)
        clear hK K hb hI
        have hI := hI'
        clear hI'
        refine norm_ (a' := ?_) ?_ ?_
        rotate_left
        · show Act.put _ (some 25) _ = _
          simp only [Act.put, List.setIfInBounds_toArray, List.set_cons_zero, List.set_cons_succ]
          rfl
        refine pure_ (i := 5) (N := (some 20)) (v := ?_) (a' := ?_) #[true, true, true, true, true, true, false, false, true, false, false] rfl rfl (by kernel_rfl) (fun _ _ _ h => h) (Or.inl ⟨by rfl, ?_⟩) ?_ ?_
        rotate_left
        · intro w'
          go_simp
          with_reducible rfl
        rotate_left
        · simp only [Act.put, List.setIfInBounds_toArray, List.set_cons_zero, List.set_cons_succ]
          rfl
        refine pure_ (i := 6) (N := (some 26)) (v := ?_) (a' := ?_) #[true, true, true, true, true, true, true, false, true, false, false] rfl rfl (by kernel_rfl) (fun _ _ _ h => h) (Or.inl ⟨by rfl, ?_⟩) ?_ ?_
        rotate_left
        · intro w'
          go_simp
          with_reducible rfl
        rotate_left
        · simp only [Act.put, List.setIfInBounds_toArray, List.set_cons_zero, List.set_cons_succ]
          rfl
        refine pure_ (i := 7) (N := (some 27)) (v := ?_) (a' := ?_) #[true, true, true, true, true, true, true, true, true, false, false] rfl rfl (by kernel_rfl) (fun _ _ _ h => h) (Or.inl ⟨by rfl, ?_⟩) ?_ ?_
        rotate_left
        · intro w'
          go_simp
          with_reducible rfl
        rotate_left
        · simp only [Act.put, List.setIfInBounds_toArray, List.set_cons_zero, List.set_cons_succ]
          rfl
        exact norm_ (by simp only [putAll, Act.put, List.setIfInBounds_toArray, List.set_cons_zero, List.set_cons_succ]) (hC _ _ ⟨hI, hN⟩)
    · skip
      refine value_ (w1 := ?_) (v := ?_) (by rfl) rfl ?_ ?_
      rotate_left 2
      · go_simp
        constructor
        · rfl
        · rfl
      have hN := New.made hI (.cells #[.int .i64 0, .int .i64 0, .string (⟨#[]⟩ : ByteArray)] 26 (0, 0))
      refine hK.out _ _ (hI.alloc _) (fun hI' => ?_)
      clear hK K hI
      have hI := hI'
      clear hI'
      refine norm_ (a' := ?_) ?_ ?_
      rotate_left
      · show Act.put _ (some 6) _ = _
        simp only [Act.put, List.setIfInBounds_toArray, List.set_cons_zero, List.set_cons_succ]
        rfl
      refine one_ (i := 1) (N := (some 22)) #[true, true, true, false, false, false, false, false, true, false, false] rfl rfl (by kernel_rfl) (by decide) (fun K hK => ?_)
      refine goes_ Try.func17 (by kernel_rfl) rfl #[.agg #[.int .i64 ak, .int .i64 an, .string au]] (by rfl) rfl rfl (by (try simp only [List.map_toArray, List.map_cons, List.map_nil]); first | done | rfl) ?_
      refine (toV _ _ _ _).mono ?_
      rintro e w10 ⟨rfl, hb⟩
      refine ⟨_, rfl, ?_⟩
      replace hN := hN.step hb
      refine hK.out _ _ (hI.step hb) (fun hI' => ?_)
      clear hK K hb hI
      have hI := hI'
      clear hI'
      refine norm_ (a' := ?_) ?_ ?_
      rotate_left
      · show Act.put _ (some 22) _ = _
        simp only [Act.put, List.setIfInBounds_toArray, List.set_cons_zero, List.set_cons_succ]
        rfl
      refine one_ (i := 3) (N := (some 24)) #[true, true, true, true, false, false, false, false, true, false, false] rfl rfl (by kernel_rfl) (by decide) (fun K hK => ?_)
      refine goes_ Try.func17 (by kernel_rfl) rfl #[.agg #[.int .i64 bk, .int .i64 bn, .string bu]] (by rfl) rfl rfl (by (try simp only [List.map_toArray, List.map_cons, List.map_nil]); first | done | rfl) ?_
      refine (toV _ _ _ _).mono ?_
      rintro e w11 ⟨rfl, hb⟩
      refine ⟨_, rfl, ?_⟩
      replace hN := hN.step hb
      refine hK.out _ _ (hI.step hb) (fun hI' => ?_)
      clear hK K hb hI
      have hI := hI'
      clear hI'
      refine norm_ (a' := ?_) ?_ ?_
      rotate_left
      · show Act.put _ (some 24) _ = _
        simp only [Act.put, List.setIfInBounds_toArray, List.set_cons_zero, List.set_cons_succ]
        rfl
      refine one_ (i := 4) (N := (some 25)) #[true, true, true, true, true, false, false, false, true, false, false] rfl rfl (by kernel_rfl) (by decide) (fun K hK => ?_)
      refine goes_ Try.func32 (by kernel_rfl) rfl #[.agg #[.int .i64 ak, .int .i64 an, .string au], .agg #[.int .i64 bk, .int .i64 bn, .string bu]] (by rfl) rfl rfl (by (try simp only [List.map_toArray, List.map_cons, List.map_nil]); first | done | rfl) ?_
      refine (sub04 _ _ _ _ _ _ _).mono ?_
      rintro e w12 ⟨rfl, hb⟩
      refine ⟨_, rfl, ?_⟩
      replace hN := hN.step hb
      refine hK.out _ _ (hI.step hb) (fun hI' => ?_)
      clear hK K hb hI
      have hI := hI'
      clear hI'
      refine norm_ (a' := ?_) ?_ ?_
      rotate_left
      · show Act.put _ (some 25) _ = _
        simp only [Act.put, List.setIfInBounds_toArray, List.set_cons_zero, List.set_cons_succ]
        rfl
      refine pure_ (i := 5) (N := (some 20)) (v := ?_) (a' := ?_) #[true, true, true, true, true, true, false, false, true, false, false] rfl rfl (by kernel_rfl) (fun _ _ _ h => h) (Or.inl ⟨by rfl, ?_⟩) ?_ ?_
      rotate_left
      · intro w'
        go_simp
        with_reducible rfl
      rotate_left
      · simp only [Act.put, List.setIfInBounds_toArray, List.set_cons_zero, List.set_cons_succ]
        rfl
      refine pure_ (i := 6) (N := (some 26)) (v := ?_) (a' := ?_) #[true, true, true, true, true, true, true, false, true, false, false] rfl rfl (by kernel_rfl) (fun _ _ _ h => h) (Or.inl ⟨by rfl, ?_⟩) ?_ ?_
      rotate_left
      · intro w'
        go_simp
        with_reducible rfl
      rotate_left
      · simp only [Act.put, List.setIfInBounds_toArray, List.set_cons_zero, List.set_cons_succ]
        rfl
      refine pure_ (i := 7) (N := (some 27)) (v := ?_) (a' := ?_) #[true, true, true, true, true, true, true, true, true, false, false] rfl rfl (by kernel_rfl) (fun _ _ _ h => h) (Or.inl ⟨by rfl, ?_⟩) ?_ ?_
      rotate_left
      · intro w'
        go_simp
        with_reducible rfl
      rotate_left
      · simp only [Act.put, List.setIfInBounds_toArray, List.set_cons_zero, List.set_cons_succ]
        rfl
      exact norm_ (by simp only [putAll, Act.put, List.setIfInBounds_toArray, List.set_cons_zero, List.set_cons_succ]) (hC _ _ ⟨hI, hN⟩)
  rintro g3 w13 ⟨hI', hN⟩
  clear hI
  have hI := hI'
  clear hI'
  refine norm_ (a' := ?_) ?_ ?_
  rotate_left
  · simp only [putAll, Act.put, List.setIfInBounds_toArray, List.set_cons_zero, List.set_cons_succ]
    rfl
  refine one_ (i := 9) (N := none) #[true, true, true, true, true, true, true, true, true, true, false] rfl rfl (by kernel_rfl) (by decide) (fun K hK => ?_)
  refine skip_ (w1 := ?_) (by rfl) rfl ?_ ?_
  rotate_left
  · have c := hN.cell
    have f := hN.free
    go_simp
    rfl
  refine hK.out _ _ (New.inv3 hI hN _ _ _) (fun hI' => ?_)
  clear hK K
  have hN' := hN.put3 (u0 := .int .i64 (arV (· - ·) ⟨ak, an, au⟩ ⟨bk, bn, bu⟩).k) (u1 := .int .i64 (arV (· - ·) ⟨ak, an, au⟩ ⟨bk, bn, bu⟩).n) (u2 := .string (arV (· - ·) ⟨ak, an, au⟩ ⟨bk, bn, bu⟩).s)
  have hI2 := hI'.cons hN'.blk
  clear hI hI' hN hN'
  have hI := hI2
  clear hI2
  refine pure_ (i := 10) (N := (some 7)) (v := ?_) (a' := ?_) #[true, true, true, true, true, true, true, true, true, true, true] rfl rfl (by kernel_rfl) (fun _ _ _ h => h) (Or.inl ⟨by rfl, ?_⟩) ?_ ?_
  rotate_left
  · intro w'
    go_simp
    with_reducible rfl
  rotate_left
  · simp only [Act.put, List.setIfInBounds_toArray, List.set_cons_zero, List.set_cons_succ]
    rfl
  refine done_ (by kernel_rfl) ?_
  generalize (((w13.setCell ⟨g3, 0, none⟩ (.int .i64 (arV (· - ·) ⟨ak, an, au⟩ ⟨bk, bn, bu⟩).k)).setCell ⟨g3, 1, none⟩ (.int .i64 (arV (· - ·) ⟨ak, an, au⟩ ⟨bk, bn, bu⟩).n)).setCell ⟨g3, 2, none⟩ (.string (arV (· - ·) ⟨ak, an, au⟩ ⟨bk, bn, bu⟩).s)) = w14 at hI ⊢
  have hI4 := hI
  clear hI
  have x4_0 := hI4.cell 0 rfl
  have y4_0 := hI4.lt 0 rfl
  have x4_1 := hI4.cell 1 rfl
  have y4_1 := hI4.lt 1 rfl
  have x4_2 := hI4.cell 2 rfl
  have y4_2 := hI4.lt 2 rfl
  go_wp2_with fail
  have hI5 := hI4
  clear x4_0 y4_0 x4_1 y4_1 x4_2 y4_2 hI4
  refine start_ (n := 11) (S := Inv w [(g3, .cells #[.int .i64 (arV (· - ·) ⟨ak, an, au⟩ ⟨bk, bn, bu⟩).k, .int .i64 (arV (· - ·) ⟨ak, an, au⟩ ⟨bk, bn, bu⟩).n, .string (arV (· - ·) ⟨ak, an, au⟩ ⟨bk, bn, bu⟩).s] 26 (0, 0)), (w.heap.size + 1, .cells #[.int .i64 bk, .int .i64 bn, .string bu] 24 (0, 0)), (w.heap.size, .cells #[.int .i64 ak, .int .i64 an, .string au] 24 (0, 0))]) (ds := []) #[false, false, false, false, false, false, false, false, false, false, false] (by kernel_rfl) rfl rfl hI5.drew (fun hI => ?_)
  clear hI5
  generalize World.drew _ = w15 at hI ⊢
  refine take_ (i := 0) (N := (some 29)) (v := ?_) (a' := ?_) #[true, false, false, false, false, false, false, false, false, false, false] rfl rfl (by kernel_rfl) (fun _ _ _ h => h) (Or.inl ⟨by rfl, ?_⟩) hI ?_ ?_
  rotate_left
  · intro w' h'
    have x := h'.cell 2 rfl
    go_simp
    with_reducible rfl
  rotate_left
  · simp only [Act.put, List.setIfInBounds_toArray, List.set_cons_zero, List.set_cons_succ]
    rfl
  refine take_ (i := 2) (N := (some 31)) (v := ?_) (a' := ?_) #[true, false, true, false, false, false, false, false, false, false, false] rfl rfl (by kernel_rfl) (fun _ _ _ h => h) (Or.inl ⟨by rfl, ?_⟩) hI ?_ ?_
  rotate_left
  · intro w' h'
    have x := h'.cell 1 rfl
    go_simp
    with_reducible rfl
  rotate_left
  · simp only [Act.put, List.setIfInBounds_toArray, List.set_cons_zero, List.set_cons_succ]
    rfl
  refine join_ (σ := Nat) 2 #[true, true, true, true, true, true, true, true, true, false, false] (fun g_ => [(30, .agg #[.int .i64 ak, .int .i64 an, .string au]), (32, .agg #[.int .i64 bk, .int .i64 bn, .string bu]), (33, .tuple #[.agg #[.int .i64 (arV (· - ·) ⟨ak, an, au⟩ ⟨bk, bn, bu⟩).k, .int .i64 (arV (· - ·) ⟨ak, an, au⟩ ⟨bk, bn, bu⟩).n, .string (arV (· - ·) ⟨ak, an, au⟩ ⟨bk, bn, bu⟩).s], .int .i64 (arT (· - ·) ⟨ak, an, au⟩ ⟨bk, bn, bu⟩)]), (28, .tuple #[.agg #[.int .i64 (arV (· - ·) ⟨ak, an, au⟩ ⟨bk, bn, bu⟩).k, .int .i64 (arV (· - ·) ⟨ak, an, au⟩ ⟨bk, bn, bu⟩).n, .string (arV (· - ·) ⟨ak, an, au⟩ ⟨bk, bn, bu⟩).s], .int .i64 (arT (· - ·) ⟨ak, an, au⟩ ⟨bk, bn, bu⟩)]), (34, .agg #[.int .i64 (arV (· - ·) ⟨ak, an, au⟩ ⟨bk, bn, bu⟩).k, .int .i64 (arV (· - ·) ⟨ak, an, au⟩ ⟨bk, bn, bu⟩).n, .string (arV (· - ·) ⟨ak, an, au⟩ ⟨bk, bn, bu⟩).s]), (35, .int .i64 (arT (· - ·) ⟨ak, an, au⟩ ⟨bk, bn, bu⟩)), (8, .pointer (some ⟨g_, 0, none⟩))]) (fun g_ w' => Inv w [(g3, .cells #[.int .i64 (arV (· - ·) ⟨ak, an, au⟩ ⟨bk, bn, bu⟩).k, .int .i64 (arV (· - ·) ⟨ak, an, au⟩ ⟨bk, bn, bu⟩).n, .string (arV (· - ·) ⟨ak, an, au⟩ ⟨bk, bn, bu⟩).s] 26 (0, 0)), (w.heap.size + 1, .cells #[.int .i64 bk, .int .i64 bn, .string bu] 24 (0, 0)), (w.heap.size, .cells #[.int .i64 ak, .int .i64 an, .string au] 24 (0, 0))] w' ∧ New w [(g3, .cells #[.int .i64 (arV (· - ·) ⟨ak, an, au⟩ ⟨bk, bn, bu⟩).k, .int .i64 (arV (· - ·) ⟨ak, an, au⟩ ⟨bk, bn, bu⟩).n, .string (arV (· - ·) ⟨ak, an, au⟩ ⟨bk, bn, bu⟩).s] 26 (0, 0)), (w.heap.size + 1, .cells #[.int .i64 bk, .int .i64 bn, .string bu] 24 (0, 0)), (w.heap.size, .cells #[.int .i64 ak, .int .i64 an, .string au] 24 (0, 0))] g_ (.cells #[.int .i64 0, .int .i64 0, .string (⟨#[]⟩ : ByteArray)] 26 (0, 0)) w') ?_ ?_
  rotate_left
  · intro hC
    refine two_ (i := 1) (j := 8) (Ni := (some 30)) (Nj := (some 8)) #[true, true, true, false, false, false, false, false, false, false, false] #[true, false, true, false, false, false, false, false, true, false, false] rfl rfl rfl rfl (by kernel_rfl) (by decide) (by decide) (fun K hK => ?_) (fun K hK => ?_)
    · skip
      refine goes_ Try.func17 (by kernel_rfl) rfl #[.agg #[.int .i64 ak, .int .i64 an, .string au]] (by rfl) rfl rfl (by (try simp only [List.map_toArray, List.map_cons, List.map_nil]); first | done | rfl) ?_
      refine (toV _ _ _ _).mono ?_
      rintro e w16 ⟨rfl, hb⟩
      refine ⟨_, rfl, ?_⟩
      refine hK.out _ _ (hI.step hb) (fun hI' => ?_)
      clear hK K hb hI
      have hI := hI'
      clear hI'
      refine norm_ (a' := ?_) ?_ ?_
      rotate_left
      · show Act.put _ (some 30) _ = _
        simp only [Act.put, List.setIfInBounds_toArray, List.set_cons_zero, List.set_cons_succ]
        rfl
      refine two_ (i := 3) (j := 8) (Ni := (some 32)) (Nj := (some 8)) #[true, true, true, true, false, false, false, false, false, false, false] #[true, true, true, false, false, false, false, false, true, false, false] rfl rfl rfl rfl (by kernel_rfl) (by decide) (by decide) (fun K hK => ?_) (fun K hK => ?_)
      · skip
        refine goes_ Try.func17 (by kernel_rfl) rfl #[.agg #[.int .i64 bk, .int .i64 bn, .string bu]] (by rfl) rfl rfl (by (try simp only [List.map_toArray, List.map_cons, List.map_nil]); first | done | rfl) ?_
        refine (toV _ _ _ _).mono ?_
        rintro e w17 ⟨rfl, hb⟩
        refine ⟨_, rfl, ?_⟩
        refine hK.out _ _ (hI.step hb) (fun hI' => ?_)
        clear hK K hb hI
        have hI := hI'
        clear hI'
        refine norm_ (a' := ?_) ?_ ?_
        rotate_left
        · show Act.put _ (some 32) _ = _
          simp only [Act.put, List.setIfInBounds_toArray, List.set_cons_zero, List.set_cons_succ]
          rfl
        refine two_ (i := 4) (j := 8) (Ni := (some 33)) (Nj := (some 8)) #[true, true, true, true, true, false, false, false, false, false, false] #[true, true, true, true, false, false, false, false, true, false, false] rfl rfl rfl rfl (by kernel_rfl) (by decide) (by decide) (fun K hK => ?_) (fun K hK => ?_)
        · skip
          refine goes_ Try.func33 (by kernel_rfl) rfl #[.agg #[.int .i64 ak, .int .i64 an, .string au], .agg #[.int .i64 bk, .int .i64 bn, .string bu]] (by rfl) rfl rfl (by (try simp only [List.map_toArray, List.map_cons, List.map_nil]); first | done | rfl) ?_
          refine (subI _ _ _ _ _ _ _).mono ?_
          rintro e w18 ⟨rfl, hb⟩
          refine ⟨_, rfl, ?_⟩
          refine hK.out _ _ (hI.step hb) (fun hI' => ?_)
          clear hK K hb hI
          have hI := hI'
          clear hI'
          refine norm_ (a' := ?_) ?_ ?_
          rotate_left
          · show Act.put _ (some 33) _ = _
            simp only [Act.put, List.setIfInBounds_toArray, List.set_cons_zero, List.set_cons_succ]
            rfl
          refine pure_ (i := 5) (N := (some 28)) (v := ?_) (a' := ?_) #[true, true, true, true, true, true, false, false, false, false, false] rfl rfl (by kernel_rfl) (fun _ _ _ h => h) (Or.inl ⟨by rfl, ?_⟩) ?_ ?_
          rotate_left
          · intro w'
            go_simp
            with_reducible rfl
          rotate_left
          · simp only [Act.put, List.setIfInBounds_toArray, List.set_cons_zero, List.set_cons_succ]
            rfl
          refine pure_ (i := 6) (N := (some 34)) (v := ?_) (a' := ?_) #[true, true, true, true, true, true, true, false, false, false, false] rfl rfl (by kernel_rfl) (fun _ _ _ h => h) (Or.inl ⟨by rfl, ?_⟩) ?_ ?_
          rotate_left
          · intro w'
            go_simp
            with_reducible rfl
          rotate_left
          · simp only [Act.put, List.setIfInBounds_toArray, List.set_cons_zero, List.set_cons_succ]
            rfl
          refine pure_ (i := 7) (N := (some 35)) (v := ?_) (a' := ?_) #[true, true, true, true, true, true, true, true, false, false, false] rfl rfl (by kernel_rfl) (fun _ _ _ h => h) (Or.inl ⟨by rfl, ?_⟩) ?_ ?_
          rotate_left
          · intro w'
            go_simp
            with_reducible rfl
          rotate_left
          · simp only [Act.put, List.setIfInBounds_toArray, List.set_cons_zero, List.set_cons_succ]
            rfl
          refine one_ (i := 8) (N := (some 8)) #[true, true, true, true, true, true, true, true, true, false, false] rfl rfl (by kernel_rfl) (by decide) (fun K hK => ?_)
          refine value_ (w1 := ?_) (v := ?_) (by rfl) rfl ?_ ?_
          rotate_left 2
          · go_simp
            constructor
            · rfl
            · rfl
          have hN := New.made hI (.cells #[.int .i64 0, .int .i64 0, .string (⟨#[]⟩ : ByteArray)] 26 (0, 0))
          refine hK.out _ _ (hI.alloc _) (fun hI' => ?_)
          clear hK K hI
          have hI := hI'
          clear hI'
          refine norm_ (a' := ?_) ?_ ?_
          rotate_left
          · show Act.put _ (some 8) _ = _
            simp only [Act.put, List.setIfInBounds_toArray, List.set_cons_zero, List.set_cons_succ]
            rfl
          exact norm_ (by simp only [putAll, Act.put, List.setIfInBounds_toArray, List.set_cons_zero, List.set_cons_succ]) (hC _ _ ⟨hI, hN⟩)
        · skip
          refine value_ (w1 := ?_) (v := ?_) (by rfl) rfl ?_ ?_
          rotate_left 2
          · go_simp
            constructor
            · rfl
            · rfl
          have hN := New.made hI (.cells #[.int .i64 0, .int .i64 0, .string (⟨#[]⟩ : ByteArray)] 26 (0, 0))
          refine hK.out _ _ (hI.alloc _) (fun hI' => ?_)
          clear hK K hI
          have hI := hI'
          clear hI'
          refine norm_ (a' := ?_) ?_ ?_
          rotate_left
          · show Act.put _ (some 8) _ = _
            simp only [Act.put, List.setIfInBounds_toArray, List.set_cons_zero, List.set_cons_succ]
            rfl
          refine one_ (i := 4) (N := (some 33)) #[true, true, true, true, true, false, false, false, true, false, false] rfl rfl (by kernel_rfl) (by decide) (fun K hK => ?_)
          refine goes_ Try.func33 (by kernel_rfl) rfl #[.agg #[.int .i64 ak, .int .i64 an, .string au], .agg #[.int .i64 bk, .int .i64 bn, .string bu]] (by rfl) rfl rfl (by (try simp only [List.map_toArray, List.map_cons, List.map_nil]); first | done | rfl) ?_
          refine (subI _ _ _ _ _ _ _).mono ?_
          rintro e w19 ⟨rfl, hb⟩
          refine ⟨_, rfl, ?_⟩
          replace hN := hN.step hb
          refine hK.out _ _ (hI.step hb) (fun hI' => ?_)
          clear hK K hb hI
          have hI := hI'
          clear hI'
          refine norm_ (a' := ?_) ?_ ?_
          rotate_left
          · show Act.put _ (some 33) _ = _
            simp only [Act.put, List.setIfInBounds_toArray, List.set_cons_zero, List.set_cons_succ]
            rfl
          refine pure_ (i := 5) (N := (some 28)) (v := ?_) (a' := ?_) #[true, true, true, true, true, true, false, false, true, false, false] rfl rfl (by kernel_rfl) (fun _ _ _ h => h) (Or.inl ⟨by rfl, ?_⟩) ?_ ?_
          rotate_left
          · intro w'
            go_simp
            with_reducible rfl
          rotate_left
          · simp only [Act.put, List.setIfInBounds_toArray, List.set_cons_zero, List.set_cons_succ]
            rfl
          refine pure_ (i := 6) (N := (some 34)) (v := ?_) (a' := ?_) #[true, true, true, true, true, true, true, false, true, false, false] rfl rfl (by kernel_rfl) (fun _ _ _ h => h) (Or.inl ⟨by rfl, ?_⟩) ?_ ?_
          rotate_left
          · intro w'
            go_simp
            with_reducible rfl
          rotate_left
          · simp only [Act.put, List.setIfInBounds_toArray, List.set_cons_zero, List.set_cons_succ]
            rfl
          refine pure_ (i := 7) (N := (some 35)) (v := ?_) (a' := ?_) #[true, true, true, true, true, true, true, true, true, false, false] rfl rfl (by kernel_rfl) (fun _ _ _ h => h) (Or.inl ⟨by rfl, ?_⟩) ?_ ?_
          rotate_left
          · intro w'
            go_simp
            with_reducible rfl
          rotate_left
          · simp only [Act.put, List.setIfInBounds_toArray, List.set_cons_zero, List.set_cons_succ]
            rfl
          exact norm_ (by simp only [putAll, Act.put, List.setIfInBounds_toArray, List.set_cons_zero, List.set_cons_succ]) (hC _ _ ⟨hI, hN⟩)
      · skip
        refine value_ (w1 := ?_) (v := ?_) (by rfl) rfl ?_ ?_
        rotate_left 2
        · go_simp
          constructor
          · rfl
          · rfl
        have hN := New.made hI (.cells #[.int .i64 0, .int .i64 0, .string (⟨#[]⟩ : ByteArray)] 26 (0, 0))
        refine hK.out _ _ (hI.alloc _) (fun hI' => ?_)
        clear hK K hI
        have hI := hI'
        clear hI'
        refine norm_ (a' := ?_) ?_ ?_
        rotate_left
        · show Act.put _ (some 8) _ = _
          simp only [Act.put, List.setIfInBounds_toArray, List.set_cons_zero, List.set_cons_succ]
          rfl
        refine one_ (i := 3) (N := (some 32)) #[true, true, true, true, false, false, false, false, true, false, false] rfl rfl (by kernel_rfl) (by decide) (fun K hK => ?_)
        refine goes_ Try.func17 (by kernel_rfl) rfl #[.agg #[.int .i64 bk, .int .i64 bn, .string bu]] (by rfl) rfl rfl (by (try simp only [List.map_toArray, List.map_cons, List.map_nil]); first | done | rfl) ?_
        refine (toV _ _ _ _).mono ?_
        rintro e w20 ⟨rfl, hb⟩
        refine ⟨_, rfl, ?_⟩
        replace hN := hN.step hb
        refine hK.out _ _ (hI.step hb) (fun hI' => ?_)
        clear hK K hb hI
        have hI := hI'
        clear hI'
        refine norm_ (a' := ?_) ?_ ?_
        rotate_left
        · show Act.put _ (some 32) _ = _
          simp only [Act.put, List.setIfInBounds_toArray, List.set_cons_zero, List.set_cons_succ]
          rfl
        refine one_ (i := 4) (N := (some 33)) #[true, true, true, true, true, false, false, false, true, false, false] rfl rfl (by kernel_rfl) (by decide) (fun K hK => ?_)
        refine goes_ Try.func33 (by kernel_rfl) rfl #[.agg #[.int .i64 ak, .int .i64 an, .string au], .agg #[.int .i64 bk, .int .i64 bn, .string bu]] (by rfl) rfl rfl (by (try simp only [List.map_toArray, List.map_cons, List.map_nil]); first | done | rfl) ?_
        refine (subI _ _ _ _ _ _ _).mono ?_
        rintro e w21 ⟨rfl, hb⟩
        refine ⟨_, rfl, ?_⟩
        replace hN := hN.step hb
        refine hK.out _ _ (hI.step hb) (fun hI' => ?_)
        clear hK K hb hI
        have hI := hI'
        clear hI'
        refine norm_ (a' := ?_) ?_ ?_
        rotate_left
        · show Act.put _ (some 33) _ = _
          simp only [Act.put, List.setIfInBounds_toArray, List.set_cons_zero, List.set_cons_succ]
          rfl
        refine pure_ (i := 5) (N := (some 28)) (v := ?_) (a' := ?_) #[true, true, true, true, true, true, false, false, true, false, false] rfl rfl (by kernel_rfl) (fun _ _ _ h => h) (Or.inl ⟨by rfl, ?_⟩) ?_ ?_
        rotate_left
        · intro w'
          go_simp
          with_reducible rfl
        rotate_left
        · simp only [Act.put, List.setIfInBounds_toArray, List.set_cons_zero, List.set_cons_succ]
          rfl
        refine pure_ (i := 6) (N := (some 34)) (v := ?_) (a' := ?_) #[true, true, true, true, true, true, true, false, true, false, false] rfl rfl (by kernel_rfl) (fun _ _ _ h => h) (Or.inl ⟨by rfl, ?_⟩) ?_ ?_
        rotate_left
        · intro w'
          go_simp
          with_reducible rfl
        rotate_left
        · simp only [Act.put, List.setIfInBounds_toArray, List.set_cons_zero, List.set_cons_succ]
          rfl
        refine pure_ (i := 7) (N := (some 35)) (v := ?_) (a' := ?_) #[true, true, true, true, true, true, true, true, true, false, false] rfl rfl (by kernel_rfl) (fun _ _ _ h => h) (Or.inl ⟨by rfl, ?_⟩) ?_ ?_
        rotate_left
        · intro w'
          go_simp
          with_reducible rfl
        rotate_left
        · simp only [Act.put, List.setIfInBounds_toArray, List.set_cons_zero, List.set_cons_succ]
          rfl
        exact norm_ (by simp only [putAll, Act.put, List.setIfInBounds_toArray, List.set_cons_zero, List.set_cons_succ]) (hC _ _ ⟨hI, hN⟩)
    · skip
      refine value_ (w1 := ?_) (v := ?_) (by rfl) rfl ?_ ?_
      rotate_left 2
      · go_simp
        constructor
        · rfl
        · rfl
      have hN := New.made hI (.cells #[.int .i64 0, .int .i64 0, .string (⟨#[]⟩ : ByteArray)] 26 (0, 0))
      refine hK.out _ _ (hI.alloc _) (fun hI' => ?_)
      clear hK K hI
      have hI := hI'
      clear hI'
      refine norm_ (a' := ?_) ?_ ?_
      rotate_left
      · show Act.put _ (some 8) _ = _
        simp only [Act.put, List.setIfInBounds_toArray, List.set_cons_zero, List.set_cons_succ]
        rfl
      refine one_ (i := 1) (N := (some 30)) #[true, true, true, false, false, false, false, false, true, false, false] rfl rfl (by kernel_rfl) (by decide) (fun K hK => ?_)
      refine goes_ Try.func17 (by kernel_rfl) rfl #[.agg #[.int .i64 ak, .int .i64 an, .string au]] (by rfl) rfl rfl (by (try simp only [List.map_toArray, List.map_cons, List.map_nil]); first | done | rfl) ?_
      refine (toV _ _ _ _).mono ?_
      rintro e w22 ⟨rfl, hb⟩
      refine ⟨_, rfl, ?_⟩
      replace hN := hN.step hb
      refine hK.out _ _ (hI.step hb) (fun hI' => ?_)
      clear hK K hb hI
      have hI := hI'
      clear hI'
      refine norm_ (a' := ?_) ?_ ?_
      rotate_left
      · show Act.put _ (some 30) _ = _
        simp only [Act.put, List.setIfInBounds_toArray, List.set_cons_zero, List.set_cons_succ]
        rfl
      refine one_ (i := 3) (N := (some 32)) #[true, true, true, true, false, false, false, false, true, false, false] rfl rfl (by kernel_rfl) (by decide) (fun K hK => ?_)
      refine goes_ Try.func17 (by kernel_rfl) rfl #[.agg #[.int .i64 bk, .int .i64 bn, .string bu]] (by rfl) rfl rfl (by (try simp only [List.map_toArray, List.map_cons, List.map_nil]); first | done | rfl) ?_
      refine (toV _ _ _ _).mono ?_
      rintro e w23 ⟨rfl, hb⟩
      refine ⟨_, rfl, ?_⟩
      replace hN := hN.step hb
      refine hK.out _ _ (hI.step hb) (fun hI' => ?_)
      clear hK K hb hI
      have hI := hI'
      clear hI'
      refine norm_ (a' := ?_) ?_ ?_
      rotate_left
      · show Act.put _ (some 32) _ = _
        simp only [Act.put, List.setIfInBounds_toArray, List.set_cons_zero, List.set_cons_succ]
        rfl
      refine one_ (i := 4) (N := (some 33)) #[true, true, true, true, true, false, false, false, true, false, false] rfl rfl (by kernel_rfl) (by decide) (fun K hK => ?_)
      refine goes_ Try.func33 (by kernel_rfl) rfl #[.agg #[.int .i64 ak, .int .i64 an, .string au], .agg #[.int .i64 bk, .int .i64 bn, .string bu]] (by rfl) rfl rfl (by (try simp only [List.map_toArray, List.map_cons, List.map_nil]); first | done | rfl) ?_
      refine (subI _ _ _ _ _ _ _).mono ?_
      rintro e w24 ⟨rfl, hb⟩
      refine ⟨_, rfl, ?_⟩
      replace hN := hN.step hb
      refine hK.out _ _ (hI.step hb) (fun hI' => ?_)
      clear hK K hb hI
      have hI := hI'
      clear hI'
      refine norm_ (a' := ?_) ?_ ?_
      rotate_left
      · show Act.put _ (some 33) _ = _
        simp only [Act.put, List.setIfInBounds_toArray, List.set_cons_zero, List.set_cons_succ]
        rfl
      refine pure_ (i := 5) (N := (some 28)) (v := ?_) (a' := ?_) #[true, true, true, true, true, true, false, false, true, false, false] rfl rfl (by kernel_rfl) (fun _ _ _ h => h) (Or.inl ⟨by rfl, ?_⟩) ?_ ?_
      rotate_left
      · intro w'
        go_simp
        with_reducible rfl
      rotate_left
      · simp only [Act.put, List.setIfInBounds_toArray, List.set_cons_zero, List.set_cons_succ]
        rfl
      refine pure_ (i := 6) (N := (some 34)) (v := ?_) (a' := ?_) #[true, true, true, true, true, true, true, false, true, false, false] rfl rfl (by kernel_rfl) (fun _ _ _ h => h) (Or.inl ⟨by rfl, ?_⟩) ?_ ?_
      rotate_left
      · intro w'
        go_simp
        with_reducible rfl
      rotate_left
      · simp only [Act.put, List.setIfInBounds_toArray, List.set_cons_zero, List.set_cons_succ]
        rfl
      refine pure_ (i := 7) (N := (some 35)) (v := ?_) (a' := ?_) #[true, true, true, true, true, true, true, true, true, false, false] rfl rfl (by kernel_rfl) (fun _ _ _ h => h) (Or.inl ⟨by rfl, ?_⟩) ?_ ?_
      rotate_left
      · intro w'
        go_simp
        with_reducible rfl
      rotate_left
      · simp only [Act.put, List.setIfInBounds_toArray, List.set_cons_zero, List.set_cons_succ]
        rfl
      exact norm_ (by simp only [putAll, Act.put, List.setIfInBounds_toArray, List.set_cons_zero, List.set_cons_succ]) (hC _ _ ⟨hI, hN⟩)
  rintro g5 w25 ⟨hI', hN⟩
  clear hI
  have hI := hI'
  clear hI'
  refine norm_ (a' := ?_) ?_ ?_
  rotate_left
  · simp only [putAll, Act.put, List.setIfInBounds_toArray, List.set_cons_zero, List.set_cons_succ]
    rfl
  refine one_ (i := 9) (N := none) #[true, true, true, true, true, true, true, true, true, true, false] rfl rfl (by kernel_rfl) (by decide) (fun K hK => ?_)
  refine skip_ (w1 := ?_) (by rfl) rfl ?_ ?_
  rotate_left
  · have c := hN.cell
    have f := hN.free
    go_simp
    rfl
  refine hK.out _ _ (New.inv3 hI hN _ _ _) (fun hI' => ?_)
  clear hK K
  have hN' := hN.put3 (u0 := .int .i64 (arV (· - ·) ⟨ak, an, au⟩ ⟨bk, bn, bu⟩).k) (u1 := .int .i64 (arV (· - ·) ⟨ak, an, au⟩ ⟨bk, bn, bu⟩).n) (u2 := .string (arV (· - ·) ⟨ak, an, au⟩ ⟨bk, bn, bu⟩).s)
  have hI2 := hI'.cons hN'.blk
  clear hI hI' hN hN'
  have hI := hI2
  clear hI2
  refine pure_ (i := 10) (N := (some 9)) (v := ?_) (a' := ?_) #[true, true, true, true, true, true, true, true, true, true, true] rfl rfl (by kernel_rfl) (fun _ _ _ h => h) (Or.inl ⟨by rfl, ?_⟩) ?_ ?_
  rotate_left
  · intro w'
    go_simp
    with_reducible rfl
  rotate_left
  · simp only [Act.put, List.setIfInBounds_toArray, List.set_cons_zero, List.set_cons_succ]
    rfl
  refine done_ (by kernel_rfl) ?_
  generalize (((w25.setCell ⟨g5, 0, none⟩ (.int .i64 (arV (· - ·) ⟨ak, an, au⟩ ⟨bk, bn, bu⟩).k)).setCell ⟨g5, 1, none⟩ (.int .i64 (arV (· - ·) ⟨ak, an, au⟩ ⟨bk, bn, bu⟩).n)).setCell ⟨g5, 2, none⟩ (.string (arV (· - ·) ⟨ak, an, au⟩ ⟨bk, bn, bu⟩).s)) = w26 at hI ⊢
  have hI6 := hI
  clear hI
  have x6_0 := hI6.cell 0 rfl
  have y6_0 := hI6.lt 0 rfl
  have x6_1 := hI6.cell 1 rfl
  have y6_1 := hI6.lt 1 rfl
  have x6_2 := hI6.cell 2 rfl
  have y6_2 := hI6.lt 2 rfl
  have x6_3 := hI6.cell 3 rfl
  have y6_3 := hI6.lt 3 rfl
  go_wp2_with fail
  refine (eqV _ _ _ _).mono ?_
  rintro e w27 ⟨rfl, hb27⟩
  have hI7 := hI6.step hb27
  clear hb27 x6_0 y6_0 x6_1 y6_1 x6_2 y6_2 x6_3 y6_3 hI6
  have x7_0 := hI7.cell 0 rfl
  have y7_0 := hI7.lt 0 rfl
  have x7_1 := hI7.cell 1 rfl
  have y7_1 := hI7.lt 1 rfl
  have x7_2 := hI7.cell 2 rfl
  have y7_2 := hI7.lt 2 rfl
  have x7_3 := hI7.cell 3 rfl
  have y7_3 := hI7.lt 3 rfl
  go_wp2
  go_ret
  exact ⟨rfl, hI7.bel⟩
set_option maxHeartbeats 1000000 in
set_option maxRecDepth 100000 in
theorem addLaw (ak an : Int) (au : ByteArray) (bk bn : Int) (bu : ByteArray) (w : World) (ha1 : (Lit.int .i64 ak).wf = true) (ha2 : (Lit.int .i64 an).wf = true) (hma : au.size ≤ maxLen) (hb1 : (Lit.int .i64 bk).wf = true) (hb2 : (Lit.int .i64 bn).wf = true) (hmb : bu.size ≤ maxLen) : Calls Try.prog 10 #[.agg #[.int .i64 ak, .int .i64 an, .string au], .agg #[.int .i64 bk, .int .i64 bn, .string bu]] w fun e w' => e = .returned (.bool true) ∧ Below w.heap.size w w' := by
  clear ha1 ha2 hb1 hb2
  by_cases hsa : (au.size : Int) ≤ 1048576
  rotate_left
  · have hs := hsa
    go_enter Try.func10, Try.ntmps10
    go_wp2_with fail
    refine (szV_no ak an au (1048576) _ hma (by omega) (by omega) (by omega)).mono ?_
    rintro e w1 ⟨rfl, hb1⟩
    have hI1 := (((Inv.start w).made _ (w.heap.size) (by simp)).made _ (w.heap.size + 1) (by simp)).step hb1
    clear hb1
    have x1_0 := hI1.cell 0 rfl
    have y1_0 := hI1.lt 0 rfl
    have x1_1 := hI1.cell 1 rfl
    have y1_1 := hI1.lt 1 rfl
    go_wp2
    go_ret
    exact ⟨rfl, hI1.bel⟩
  have ga : 0 ≤ 1048576 - (au.size : Int) := by omega
  by_cases hsb : (bu.size : Int) ≤ 1048576 - (au.size : Int)
  rotate_left
  · have hs := hsb
    go_enter Try.func10, Try.ntmps10
    go_wp2_with fail
    refine (szV_ok ak an au (1048576) _ hma (by omega) (by omega) (by omega)).mono ?_
    rintro e w1 ⟨rfl, hb1⟩
    have hI1 := (((Inv.start w).made _ (w.heap.size) (by simp)).made _ (w.heap.size + 1) (by simp)).step hb1
    clear hb1
    have x1_0 := hI1.cell 0 rfl
    have y1_0 := hI1.lt 0 rfl
    have x1_1 := hI1.cell 1 rfl
    have y1_1 := hI1.lt 1 rfl
    go_wp2_with fail
    refine (szV_no bk bn bu (1048576 - (au.size : Int)) _ hmb (by omega) (by omega) (by omega)).mono ?_
    rintro e w2 ⟨rfl, hb2⟩
    have hI2 := hI1.step hb2
    clear hb2 x1_0 y1_0 x1_1 y1_1 hI1
    have x2_0 := hI2.cell 0 rfl
    have y2_0 := hI2.lt 0 rfl
    have x2_1 := hI2.cell 1 rfl
    have y2_1 := hI2.lt 1 rfl
    go_wp2
    go_ret
    exact ⟨rfl, hI2.bel⟩
  have gb : 0 ≤ 1048576 - (au.size : Int) - (bu.size : Int) := by omega
  go_enter Try.func10, Try.ntmps10
  go_wp2_with fail
  refine (szV_ok ak an au (1048576) _ hma (by omega) (by omega) (by omega)).mono ?_
  rintro e w1 ⟨rfl, hb1⟩
  have hI1 := (((Inv.start w).made _ (w.heap.size) (by simp)).made _ (w.heap.size + 1) (by simp)).step hb1
  clear hb1
  have x1_0 := hI1.cell 0 rfl
  have y1_0 := hI1.lt 0 rfl
  have x1_1 := hI1.cell 1 rfl
  have y1_1 := hI1.lt 1 rfl
  go_wp2_with fail
  refine (szV_ok bk bn bu (1048576 - (au.size : Int)) _ hmb (by omega) (by omega) (by omega)).mono ?_
  rintro e w2 ⟨rfl, hb2⟩
  have hI2 := hI1.step hb2
  clear hb2 x1_0 y1_0 x1_1 y1_1 hI1
  have x2_0 := hI2.cell 0 rfl
  have y2_0 := hI2.lt 0 rfl
  have x2_1 := hI2.cell 1 rfl
  have y2_1 := hI2.lt 1 rfl
  go_wp2_with fail
  have hI3 := hI2
  clear x2_0 y2_0 x2_1 y2_1 hI2
  refine start_ (n := 11) (S := Inv w [(w.heap.size + 1, .cells #[.int .i64 bk, .int .i64 bn, .string bu] 24 (0, 0)), (w.heap.size, .cells #[.int .i64 ak, .int .i64 an, .string au] 24 (0, 0))]) (ds := []) #[false, false, false, false, false, false, false, false, false, false, false] (by kernel_rfl) rfl rfl hI3.drew (fun hI => ?_)
  clear hI3
  generalize World.drew _ = w3 at hI ⊢
  refine take_ (i := 0) (N := (some 21)) (v := ?_) (a' := ?_) #[true, false, false, false, false, false, false, false, false, false, false] rfl rfl (by kernel_rfl) (fun _ _ _ h => h) (Or.inl ⟨by rfl, ?_⟩) hI ?_ ?_
  rotate_left
  · intro w' h'
    have x := h'.cell 1 rfl
    go_simp
    with_reducible rfl
  rotate_left
  · simp only [Act.put, List.setIfInBounds_toArray, List.set_cons_zero, List.set_cons_succ]
    rfl
  refine take_ (i := 2) (N := (some 23)) (v := ?_) (a' := ?_) #[true, false, true, false, false, false, false, false, false, false, false] rfl rfl (by kernel_rfl) (fun _ _ _ h => h) (Or.inl ⟨by rfl, ?_⟩) hI ?_ ?_
  rotate_left
  · intro w' h'
    have x := h'.cell 0 rfl
    go_simp
    with_reducible rfl
  rotate_left
  · simp only [Act.put, List.setIfInBounds_toArray, List.set_cons_zero, List.set_cons_succ]
    rfl
  refine join_ (σ := Nat) 2 #[true, true, true, true, true, true, true, true, true, false, false] (fun g_ => [(22, .agg #[.int .i64 ak, .int .i64 an, .string au]), (24, .agg #[.int .i64 bk, .int .i64 bn, .string bu]), (25, .tuple #[.agg #[.int .i64 (addV ⟨ak, an, au⟩ ⟨bk, bn, bu⟩).k, .int .i64 (addV ⟨ak, an, au⟩ ⟨bk, bn, bu⟩).n, .string (addV ⟨ak, an, au⟩ ⟨bk, bn, bu⟩).s], .int .i64 (addT ⟨ak, an, au⟩ ⟨bk, bn, bu⟩)]), (20, .tuple #[.agg #[.int .i64 (addV ⟨ak, an, au⟩ ⟨bk, bn, bu⟩).k, .int .i64 (addV ⟨ak, an, au⟩ ⟨bk, bn, bu⟩).n, .string (addV ⟨ak, an, au⟩ ⟨bk, bn, bu⟩).s], .int .i64 (addT ⟨ak, an, au⟩ ⟨bk, bn, bu⟩)]), (26, .agg #[.int .i64 (addV ⟨ak, an, au⟩ ⟨bk, bn, bu⟩).k, .int .i64 (addV ⟨ak, an, au⟩ ⟨bk, bn, bu⟩).n, .string (addV ⟨ak, an, au⟩ ⟨bk, bn, bu⟩).s]), (27, .int .i64 (addT ⟨ak, an, au⟩ ⟨bk, bn, bu⟩)), (6, .pointer (some ⟨g_, 0, none⟩))]) (fun g_ w' => Inv w [(w.heap.size + 1, .cells #[.int .i64 bk, .int .i64 bn, .string bu] 24 (0, 0)), (w.heap.size, .cells #[.int .i64 ak, .int .i64 an, .string au] 24 (0, 0))] w' ∧ New w [(w.heap.size + 1, .cells #[.int .i64 bk, .int .i64 bn, .string bu] 24 (0, 0)), (w.heap.size, .cells #[.int .i64 ak, .int .i64 an, .string au] 24 (0, 0))] g_ (.cells #[.int .i64 0, .int .i64 0, .string (⟨#[]⟩ : ByteArray)] 26 (0, 0)) w') ?_ ?_
  rotate_left
  · intro hC
    refine two_ (i := 1) (j := 8) (Ni := (some 22)) (Nj := (some 6)) #[true, true, true, false, false, false, false, false, false, false, false] #[true, false, true, false, false, false, false, false, true, false, false] rfl rfl rfl rfl (by kernel_rfl) (by decide) (by decide) (fun K hK => ?_) (fun K hK => ?_)
    · skip
      refine goes_ Try.func17 (by kernel_rfl) rfl #[.agg #[.int .i64 ak, .int .i64 an, .string au]] (by rfl) rfl rfl (by (try simp only [List.map_toArray, List.map_cons, List.map_nil]); first | done | rfl) ?_
      refine (toV _ _ _ _).mono ?_
      rintro e w4 ⟨rfl, hb⟩
      refine ⟨_, rfl, ?_⟩
      refine hK.out _ _ (hI.step hb) (fun hI' => ?_)
      clear hK K hb hI
      have hI := hI'
      clear hI'
      refine norm_ (a' := ?_) ?_ ?_
      rotate_left
      · show Act.put _ (some 22) _ = _
        simp only [Act.put, List.setIfInBounds_toArray, List.set_cons_zero, List.set_cons_succ]
        rfl
      refine two_ (i := 3) (j := 8) (Ni := (some 24)) (Nj := (some 6)) #[true, true, true, true, false, false, false, false, false, false, false] #[true, true, true, false, false, false, false, false, true, false, false] rfl rfl rfl rfl (by kernel_rfl) (by decide) (by decide) (fun K hK => ?_) (fun K hK => ?_)
      · skip
        refine goes_ Try.func17 (by kernel_rfl) rfl #[.agg #[.int .i64 bk, .int .i64 bn, .string bu]] (by rfl) rfl rfl (by (try simp only [List.map_toArray, List.map_cons, List.map_nil]); first | done | rfl) ?_
        refine (toV _ _ _ _).mono ?_
        rintro e w5 ⟨rfl, hb⟩
        refine ⟨_, rfl, ?_⟩
        refine hK.out _ _ (hI.step hb) (fun hI' => ?_)
        clear hK K hb hI
        have hI := hI'
        clear hI'
        refine norm_ (a' := ?_) ?_ ?_
        rotate_left
        · show Act.put _ (some 24) _ = _
          simp only [Act.put, List.setIfInBounds_toArray, List.set_cons_zero, List.set_cons_succ]
          rfl
        refine two_ (i := 4) (j := 8) (Ni := (some 25)) (Nj := (some 6)) #[true, true, true, true, true, false, false, false, false, false, false] #[true, true, true, true, false, false, false, false, true, false, false] rfl rfl rfl rfl (by kernel_rfl) (by decide) (by decide) (fun K hK => ?_) (fun K hK => ?_)
        · skip
          refine goes_ Try.func34 (by kernel_rfl) rfl #[.agg #[.int .i64 ak, .int .i64 an, .string au], .agg #[.int .i64 bk, .int .i64 bn, .string bu]] (by rfl) rfl rfl (by (try simp only [List.map_toArray, List.map_cons, List.map_nil]); first | done | rfl) ?_
          refine (add04 _ _ _ _ _ _ _ (by omega) (by omega)).mono ?_
          rintro e w6 ⟨rfl, hb⟩
          refine ⟨_, rfl, ?_⟩
          refine hK.out _ _ (hI.step hb) (fun hI' => ?_)
          clear hK K hb hI
          have hI := hI'
          clear hI'
          refine norm_ (a' := ?_) ?_ ?_
          rotate_left
          · show Act.put _ (some 25) _ = _
            simp only [Act.put, List.setIfInBounds_toArray, List.set_cons_zero, List.set_cons_succ]
            rfl
          refine pure_ (i := 5) (N := (some 20)) (v := ?_) (a' := ?_) #[true, true, true, true, true, true, false, false, false, false, false] rfl rfl (by kernel_rfl) (fun _ _ _ h => h) (Or.inl ⟨by rfl, ?_⟩) ?_ ?_
          rotate_left
          · intro w'
            go_simp
            with_reducible rfl
          rotate_left
          · simp only [Act.put, List.setIfInBounds_toArray, List.set_cons_zero, List.set_cons_succ]
            rfl
          refine pure_ (i := 6) (N := (some 26)) (v := ?_) (a' := ?_) #[true, true, true, true, true, true, true, false, false, false, false] rfl rfl (by kernel_rfl) (fun _ _ _ h => h) (Or.inl ⟨by rfl, ?_⟩) ?_ ?_
          rotate_left
          · intro w'
            go_simp
            with_reducible rfl
          rotate_left
          · simp only [Act.put, List.setIfInBounds_toArray, List.set_cons_zero, List.set_cons_succ]
            rfl
          refine pure_ (i := 7) (N := (some 27)) (v := ?_) (a' := ?_) #[true, true, true, true, true, true, true, true, false, false, false] rfl rfl (by kernel_rfl) (fun _ _ _ h => h) (Or.inl ⟨by rfl, ?_⟩) ?_ ?_
          rotate_left
          · intro w'
            go_simp
            with_reducible rfl
          rotate_left
          · simp only [Act.put, List.setIfInBounds_toArray, List.set_cons_zero, List.set_cons_succ]
            rfl
          refine one_ (i := 8) (N := (some 6)) #[true, true, true, true, true, true, true, true, true, false, false] rfl rfl (by kernel_rfl) (by decide) (fun K hK => ?_)
          refine value_ (w1 := ?_) (v := ?_) (by rfl) rfl ?_ ?_
          rotate_left 2
          · go_simp
            constructor
            · rfl
            · rfl
          have hN := New.made hI (.cells #[.int .i64 0, .int .i64 0, .string (⟨#[]⟩ : ByteArray)] 26 (0, 0))
          refine hK.out _ _ (hI.alloc _) (fun hI' => ?_)
          clear hK K hI
          have hI := hI'
          clear hI'
          refine norm_ (a' := ?_) ?_ ?_
          rotate_left
          · show Act.put _ (some 6) _ = _
            simp only [Act.put, List.setIfInBounds_toArray, List.set_cons_zero, List.set_cons_succ]
            rfl
          exact norm_ (by simp only [putAll, Act.put, List.setIfInBounds_toArray, List.set_cons_zero, List.set_cons_succ]) (hC _ _ ⟨hI, hN⟩)
        · skip
          refine value_ (w1 := ?_) (v := ?_) (by rfl) rfl ?_ ?_
          rotate_left 2
          · go_simp
            constructor
            · rfl
            · rfl
          have hN := New.made hI (.cells #[.int .i64 0, .int .i64 0, .string (⟨#[]⟩ : ByteArray)] 26 (0, 0))
          refine hK.out _ _ (hI.alloc _) (fun hI' => ?_)
          clear hK K hI
          have hI := hI'
          clear hI'
          refine norm_ (a' := ?_) ?_ ?_
          rotate_left
          · show Act.put _ (some 6) _ = _
            simp only [Act.put, List.setIfInBounds_toArray, List.set_cons_zero, List.set_cons_succ]
            rfl
          refine one_ (i := 4) (N := (some 25)) #[true, true, true, true, true, false, false, false, true, false, false] rfl rfl (by kernel_rfl) (by decide) (fun K hK => ?_)
          refine goes_ Try.func34 (by kernel_rfl) rfl #[.agg #[.int .i64 ak, .int .i64 an, .string au], .agg #[.int .i64 bk, .int .i64 bn, .string bu]] (by rfl) rfl rfl (by (try simp only [List.map_toArray, List.map_cons, List.map_nil]); first | done | rfl) ?_
          refine (add04 _ _ _ _ _ _ _ (by omega) (by omega)).mono ?_
          rintro e w7 ⟨rfl, hb⟩
          refine ⟨_, rfl, ?_⟩
          replace hN := hN.step hb
          refine hK.out _ _ (hI.step hb) (fun hI' => ?_)
          clear hK K hb hI
          have hI := hI'
          clear hI'
          refine norm_ (a' := ?_) ?_ ?_
          rotate_left
          · show Act.put _ (some 25) _ = _
            simp only [Act.put, List.setIfInBounds_toArray, List.set_cons_zero, List.set_cons_succ]
            rfl
          refine pure_ (i := 5) (N := (some 20)) (v := ?_) (a' := ?_) #[true, true, true, true, true, true, false, false, true, false, false] rfl rfl (by kernel_rfl) (fun _ _ _ h => h) (Or.inl ⟨by rfl, ?_⟩) ?_ ?_
          rotate_left
          · intro w'
            go_simp
            with_reducible rfl
          rotate_left
          · simp only [Act.put, List.setIfInBounds_toArray, List.set_cons_zero, List.set_cons_succ]
            rfl
          refine pure_ (i := 6) (N := (some 26)) (v := ?_) (a' := ?_) #[true, true, true, true, true, true, true, false, true, false, false] rfl rfl (by kernel_rfl) (fun _ _ _ h => h) (Or.inl ⟨by rfl, ?_⟩) ?_ ?_
          rotate_left
          · intro w'
            go_simp
            with_reducible rfl
          rotate_left
          · simp only [Act.put, List.setIfInBounds_toArray, List.set_cons_zero, List.set_cons_succ]
            rfl
          refine pure_ (i := 7) (N := (some 27)) (v := ?_) (a' := ?_) #[true, true, true, true, true, true, true, true, true, false, false] rfl rfl (by kernel_rfl) (fun _ _ _ h => h) (Or.inl ⟨by rfl, ?_⟩) ?_ ?_
          rotate_left
          · intro w'
            go_simp
            with_reducible rfl
          rotate_left
          · simp only [Act.put, List.setIfInBounds_toArray, List.set_cons_zero, List.set_cons_succ]
            rfl
          exact norm_ (by simp only [putAll, Act.put, List.setIfInBounds_toArray, List.set_cons_zero, List.set_cons_succ]) (hC _ _ ⟨hI, hN⟩)
      · skip
        refine value_ (w1 := ?_) (v := ?_) (by rfl) rfl ?_ ?_
        rotate_left 2
        · go_simp
          constructor
          · rfl
          · rfl
        have hN := New.made hI (.cells #[.int .i64 0, .int .i64 0, .string (⟨#[]⟩ : ByteArray)] 26 (0, 0))
        refine hK.out _ _ (hI.alloc _) (fun hI' => ?_)
        clear hK K hI
        have hI := hI'
        clear hI'
        refine norm_ (a' := ?_) ?_ ?_
        rotate_left
        · show Act.put _ (some 6) _ = _
          simp only [Act.put, List.setIfInBounds_toArray, List.set_cons_zero, List.set_cons_succ]
          rfl
        refine one_ (i := 3) (N := (some 24)) #[true, true, true, true, false, false, false, false, true, false, false] rfl rfl (by kernel_rfl) (by decide) (fun K hK => ?_)
        refine goes_ Try.func17 (by kernel_rfl) rfl #[.agg #[.int .i64 bk, .int .i64 bn, .string bu]] (by rfl) rfl rfl (by (try simp only [List.map_toArray, List.map_cons, List.map_nil]); first | done | rfl) ?_
        refine (toV _ _ _ _).mono ?_
        rintro e w8 ⟨rfl, hb⟩
        refine ⟨_, rfl, ?_⟩
        replace hN := hN.step hb
        refine hK.out _ _ (hI.step hb) (fun hI' => ?_)
        clear hK K hb hI
        have hI := hI'
        clear hI'
        refine norm_ (a' := ?_) ?_ ?_
        rotate_left
        · show Act.put _ (some 24) _ = _
          simp only [Act.put, List.setIfInBounds_toArray, List.set_cons_zero, List.set_cons_succ]
          rfl
        refine one_ (i := 4) (N := (some 25)) #[true, true, true, true, true, false, false, false, true, false, false] rfl rfl (by kernel_rfl) (by decide) (fun K hK => ?_)
        refine goes_ Try.func34 (by kernel_rfl) rfl #[.agg #[.int .i64 ak, .int .i64 an, .string au], .agg #[.int .i64 bk, .int .i64 bn, .string bu]] (by rfl) rfl rfl (by (try simp only [List.map_toArray, List.map_cons, List.map_nil]); first | done | rfl) ?_
        refine (add04 _ _ _ _ _ _ _ (by omega) (by omega)).mono ?_
        rintro e w9 ⟨rfl, hb⟩
        refine ⟨_, rfl, ?_⟩
        replace hN := hN.step hb
        refine hK.out _ _ (hI.step hb) (fun hI' => ?_)
        clear hK K hb hI
        have hI := hI'
        clear hI'
        refine norm_ (a' := ?_) ?_ ?_
        rotate_left
        · show Act.put _ (some 25) _ = _
          simp only [Act.put, List.setIfInBounds_toArray, List.set_cons_zero, List.set_cons_succ]
          rfl
        refine pure_ (i := 5) (N := (some 20)) (v := ?_) (a' := ?_) #[true, true, true, true, true, true, false, false, true, false, false] rfl rfl (by kernel_rfl) (fun _ _ _ h => h) (Or.inl ⟨by rfl, ?_⟩) ?_ ?_
        rotate_left
        · intro w'
          go_simp
          with_reducible rfl
        rotate_left
        · simp only [Act.put, List.setIfInBounds_toArray, List.set_cons_zero, List.set_cons_succ]
          rfl
        refine pure_ (i := 6) (N := (some 26)) (v := ?_) (a' := ?_) #[true, true, true, true, true, true, true, false, true, false, false] rfl rfl (by kernel_rfl) (fun _ _ _ h => h) (Or.inl ⟨by rfl, ?_⟩) ?_ ?_
        rotate_left
        · intro w'
          go_simp
          with_reducible rfl
        rotate_left
        · simp only [Act.put, List.setIfInBounds_toArray, List.set_cons_zero, List.set_cons_succ]
          rfl
        refine pure_ (i := 7) (N := (some 27)) (v := ?_) (a' := ?_) #[true, true, true, true, true, true, true, true, true, false, false] rfl rfl (by kernel_rfl) (fun _ _ _ h => h) (Or.inl ⟨by rfl, ?_⟩) ?_ ?_
        rotate_left
        · intro w'
          go_simp
          with_reducible rfl
        rotate_left
        · simp only [Act.put, List.setIfInBounds_toArray, List.set_cons_zero, List.set_cons_succ]
          rfl
        exact norm_ (by simp only [putAll, Act.put, List.setIfInBounds_toArray, List.set_cons_zero, List.set_cons_succ]) (hC _ _ ⟨hI, hN⟩)
    · skip
      refine value_ (w1 := ?_) (v := ?_) (by rfl) rfl ?_ ?_
      rotate_left 2
      · go_simp
        constructor
        · rfl
        · rfl
      have hN := New.made hI (.cells #[.int .i64 0, .int .i64 0, .string (⟨#[]⟩ : ByteArray)] 26 (0, 0))
      refine hK.out _ _ (hI.alloc _) (fun hI' => ?_)
      clear hK K hI
      have hI := hI'
      clear hI'
      refine norm_ (a' := ?_) ?_ ?_
      rotate_left
      · show Act.put _ (some 6) _ = _
        simp only [Act.put, List.setIfInBounds_toArray, List.set_cons_zero, List.set_cons_succ]
        rfl
      refine one_ (i := 1) (N := (some 22)) #[true, true, true, false, false, false, false, false, true, false, false] rfl rfl (by kernel_rfl) (by decide) (fun K hK => ?_)
      refine goes_ Try.func17 (by kernel_rfl) rfl #[.agg #[.int .i64 ak, .int .i64 an, .string au]] (by rfl) rfl rfl (by (try simp only [List.map_toArray, List.map_cons, List.map_nil]); first | done | rfl) ?_
      refine (toV _ _ _ _).mono ?_
      rintro e w10 ⟨rfl, hb⟩
      refine ⟨_, rfl, ?_⟩
      replace hN := hN.step hb
      refine hK.out _ _ (hI.step hb) (fun hI' => ?_)
      clear hK K hb hI
      have hI := hI'
      clear hI'
      refine norm_ (a' := ?_) ?_ ?_
      rotate_left
      · show Act.put _ (some 22) _ = _
        simp only [Act.put, List.setIfInBounds_toArray, List.set_cons_zero, List.set_cons_succ]
        rfl
      refine one_ (i := 3) (N := (some 24)) #[true, true, true, true, false, false, false, false, true, false, false] rfl rfl (by kernel_rfl) (by decide) (fun K hK => ?_)
      refine goes_ Try.func17 (by kernel_rfl) rfl #[.agg #[.int .i64 bk, .int .i64 bn, .string bu]] (by rfl) rfl rfl (by (try simp only [List.map_toArray, List.map_cons, List.map_nil]); first | done | rfl) ?_
      refine (toV _ _ _ _).mono ?_
      rintro e w11 ⟨rfl, hb⟩
      refine ⟨_, rfl, ?_⟩
      replace hN := hN.step hb
      refine hK.out _ _ (hI.step hb) (fun hI' => ?_)
      clear hK K hb hI
      have hI := hI'
      clear hI'
      refine norm_ (a' := ?_) ?_ ?_
      rotate_left
      · show Act.put _ (some 24) _ = _
        simp only [Act.put, List.setIfInBounds_toArray, List.set_cons_zero, List.set_cons_succ]
        rfl
      refine one_ (i := 4) (N := (some 25)) #[true, true, true, true, true, false, false, false, true, false, false] rfl rfl (by kernel_rfl) (by decide) (fun K hK => ?_)
      refine goes_ Try.func34 (by kernel_rfl) rfl #[.agg #[.int .i64 ak, .int .i64 an, .string au], .agg #[.int .i64 bk, .int .i64 bn, .string bu]] (by rfl) rfl rfl (by (try simp only [List.map_toArray, List.map_cons, List.map_nil]); first | done | rfl) ?_
      refine (add04 _ _ _ _ _ _ _ (by omega) (by omega)).mono ?_
      rintro e w12 ⟨rfl, hb⟩
      refine ⟨_, rfl, ?_⟩
      replace hN := hN.step hb
      refine hK.out _ _ (hI.step hb) (fun hI' => ?_)
      clear hK K hb hI
      have hI := hI'
      clear hI'
      refine norm_ (a' := ?_) ?_ ?_
      rotate_left
      · show Act.put _ (some 25) _ = _
        simp only [Act.put, List.setIfInBounds_toArray, List.set_cons_zero, List.set_cons_succ]
        rfl
      refine pure_ (i := 5) (N := (some 20)) (v := ?_) (a' := ?_) #[true, true, true, true, true, true, false, false, true, false, false] rfl rfl (by kernel_rfl) (fun _ _ _ h => h) (Or.inl ⟨by rfl, ?_⟩) ?_ ?_
      rotate_left
      · intro w'
        go_simp
        with_reducible rfl
      rotate_left
      · simp only [Act.put, List.setIfInBounds_toArray, List.set_cons_zero, List.set_cons_succ]
        rfl
      refine pure_ (i := 6) (N := (some 26)) (v := ?_) (a' := ?_) #[true, true, true, true, true, true, true, false, true, false, false] rfl rfl (by kernel_rfl) (fun _ _ _ h => h) (Or.inl ⟨by rfl, ?_⟩) ?_ ?_
      rotate_left
      · intro w'
        go_simp
        with_reducible rfl
      rotate_left
      · simp only [Act.put, List.setIfInBounds_toArray, List.set_cons_zero, List.set_cons_succ]
        rfl
      refine pure_ (i := 7) (N := (some 27)) (v := ?_) (a' := ?_) #[true, true, true, true, true, true, true, true, true, false, false] rfl rfl (by kernel_rfl) (fun _ _ _ h => h) (Or.inl ⟨by rfl, ?_⟩) ?_ ?_
      rotate_left
      · intro w'
        go_simp
        with_reducible rfl
      rotate_left
      · simp only [Act.put, List.setIfInBounds_toArray, List.set_cons_zero, List.set_cons_succ]
        rfl
      exact norm_ (by simp only [putAll, Act.put, List.setIfInBounds_toArray, List.set_cons_zero, List.set_cons_succ]) (hC _ _ ⟨hI, hN⟩)
  rintro g3 w13 ⟨hI', hN⟩
  clear hI
  have hI := hI'
  clear hI'
  refine norm_ (a' := ?_) ?_ ?_
  rotate_left
  · simp only [putAll, Act.put, List.setIfInBounds_toArray, List.set_cons_zero, List.set_cons_succ]
    rfl
  refine one_ (i := 9) (N := none) #[true, true, true, true, true, true, true, true, true, true, false] rfl rfl (by kernel_rfl) (by decide) (fun K hK => ?_)
  refine skip_ (w1 := ?_) (by rfl) rfl ?_ ?_
  rotate_left
  · have c := hN.cell
    have f := hN.free
    go_simp
    rfl
  refine hK.out _ _ (New.inv3 hI hN _ _ _) (fun hI' => ?_)
  clear hK K
  have hN' := hN.put3 (u0 := .int .i64 (addV ⟨ak, an, au⟩ ⟨bk, bn, bu⟩).k) (u1 := .int .i64 (addV ⟨ak, an, au⟩ ⟨bk, bn, bu⟩).n) (u2 := .string (addV ⟨ak, an, au⟩ ⟨bk, bn, bu⟩).s)
  have hI2 := hI'.cons hN'.blk
  clear hI hI' hN hN'
  have hI := hI2
  clear hI2
  refine pure_ (i := 10) (N := (some 7)) (v := ?_) (a' := ?_) #[true, true, true, true, true, true, true, true, true, true, true] rfl rfl (by kernel_rfl) (fun _ _ _ h => h) (Or.inl ⟨by rfl, ?_⟩) ?_ ?_
  rotate_left
  · intro w'
    go_simp
    with_reducible rfl
  rotate_left
  · simp only [Act.put, List.setIfInBounds_toArray, List.set_cons_zero, List.set_cons_succ]
    rfl
  refine done_ (by kernel_rfl) ?_
  generalize (((w13.setCell ⟨g3, 0, none⟩ (.int .i64 (addV ⟨ak, an, au⟩ ⟨bk, bn, bu⟩).k)).setCell ⟨g3, 1, none⟩ (.int .i64 (addV ⟨ak, an, au⟩ ⟨bk, bn, bu⟩).n)).setCell ⟨g3, 2, none⟩ (.string (addV ⟨ak, an, au⟩ ⟨bk, bn, bu⟩).s)) = w14 at hI ⊢
  have hI4 := hI
  clear hI
  have x4_0 := hI4.cell 0 rfl
  have y4_0 := hI4.lt 0 rfl
  have x4_1 := hI4.cell 1 rfl
  have y4_1 := hI4.lt 1 rfl
  have x4_2 := hI4.cell 2 rfl
  have y4_2 := hI4.lt 2 rfl
  go_wp2_with fail
  have hI5 := hI4
  clear x4_0 y4_0 x4_1 y4_1 x4_2 y4_2 hI4
  refine start_ (n := 11) (S := Inv w [(g3, .cells #[.int .i64 (addV ⟨ak, an, au⟩ ⟨bk, bn, bu⟩).k, .int .i64 (addV ⟨ak, an, au⟩ ⟨bk, bn, bu⟩).n, .string (addV ⟨ak, an, au⟩ ⟨bk, bn, bu⟩).s] 26 (0, 0)), (w.heap.size + 1, .cells #[.int .i64 bk, .int .i64 bn, .string bu] 24 (0, 0)), (w.heap.size, .cells #[.int .i64 ak, .int .i64 an, .string au] 24 (0, 0))]) (ds := []) #[false, false, false, false, false, false, false, false, false, false, false] (by kernel_rfl) rfl rfl hI5.drew (fun hI => ?_)
  clear hI5
  generalize World.drew _ = w15 at hI ⊢
  refine take_ (i := 0) (N := (some 29)) (v := ?_) (a' := ?_) #[true, false, false, false, false, false, false, false, false, false, false] rfl rfl (by kernel_rfl) (fun _ _ _ h => h) (Or.inl ⟨by rfl, ?_⟩) hI ?_ ?_
  rotate_left
  · intro w' h'
    have x := h'.cell 2 rfl
    go_simp
    with_reducible rfl
  rotate_left
  · simp only [Act.put, List.setIfInBounds_toArray, List.set_cons_zero, List.set_cons_succ]
    rfl
  refine take_ (i := 2) (N := (some 31)) (v := ?_) (a' := ?_) #[true, false, true, false, false, false, false, false, false, false, false] rfl rfl (by kernel_rfl) (fun _ _ _ h => h) (Or.inl ⟨by rfl, ?_⟩) hI ?_ ?_
  rotate_left
  · intro w' h'
    have x := h'.cell 1 rfl
    go_simp
    with_reducible rfl
  rotate_left
  · simp only [Act.put, List.setIfInBounds_toArray, List.set_cons_zero, List.set_cons_succ]
    rfl
  refine join_ (σ := Nat) 2 #[true, true, true, true, true, true, true, true, true, false, false] (fun g_ => [(30, .agg #[.int .i64 ak, .int .i64 an, .string au]), (32, .agg #[.int .i64 bk, .int .i64 bn, .string bu]), (33, .tuple #[.agg #[.int .i64 (addV ⟨ak, an, au⟩ ⟨bk, bn, bu⟩).k, .int .i64 (addV ⟨ak, an, au⟩ ⟨bk, bn, bu⟩).n, .string (addV ⟨ak, an, au⟩ ⟨bk, bn, bu⟩).s], .int .i64 (addT ⟨ak, an, au⟩ ⟨bk, bn, bu⟩)]), (28, .tuple #[.agg #[.int .i64 (addV ⟨ak, an, au⟩ ⟨bk, bn, bu⟩).k, .int .i64 (addV ⟨ak, an, au⟩ ⟨bk, bn, bu⟩).n, .string (addV ⟨ak, an, au⟩ ⟨bk, bn, bu⟩).s], .int .i64 (addT ⟨ak, an, au⟩ ⟨bk, bn, bu⟩)]), (34, .agg #[.int .i64 (addV ⟨ak, an, au⟩ ⟨bk, bn, bu⟩).k, .int .i64 (addV ⟨ak, an, au⟩ ⟨bk, bn, bu⟩).n, .string (addV ⟨ak, an, au⟩ ⟨bk, bn, bu⟩).s]), (35, .int .i64 (addT ⟨ak, an, au⟩ ⟨bk, bn, bu⟩)), (8, .pointer (some ⟨g_, 0, none⟩))]) (fun g_ w' => Inv w [(g3, .cells #[.int .i64 (addV ⟨ak, an, au⟩ ⟨bk, bn, bu⟩).k, .int .i64 (addV ⟨ak, an, au⟩ ⟨bk, bn, bu⟩).n, .string (addV ⟨ak, an, au⟩ ⟨bk, bn, bu⟩).s] 26 (0, 0)), (w.heap.size + 1, .cells #[.int .i64 bk, .int .i64 bn, .string bu] 24 (0, 0)), (w.heap.size, .cells #[.int .i64 ak, .int .i64 an, .string au] 24 (0, 0))] w' ∧ New w [(g3, .cells #[.int .i64 (addV ⟨ak, an, au⟩ ⟨bk, bn, bu⟩).k, .int .i64 (addV ⟨ak, an, au⟩ ⟨bk, bn, bu⟩).n, .string (addV ⟨ak, an, au⟩ ⟨bk, bn, bu⟩).s] 26 (0, 0)), (w.heap.size + 1, .cells #[.int .i64 bk, .int .i64 bn, .string bu] 24 (0, 0)), (w.heap.size, .cells #[.int .i64 ak, .int .i64 an, .string au] 24 (0, 0))] g_ (.cells #[.int .i64 0, .int .i64 0, .string (⟨#[]⟩ : ByteArray)] 26 (0, 0)) w') ?_ ?_
  rotate_left
  · intro hC
    refine two_ (i := 1) (j := 8) (Ni := (some 30)) (Nj := (some 8)) #[true, true, true, false, false, false, false, false, false, false, false] #[true, false, true, false, false, false, false, false, true, false, false] rfl rfl rfl rfl (by kernel_rfl) (by decide) (by decide) (fun K hK => ?_) (fun K hK => ?_)
    · skip
      refine goes_ Try.func17 (by kernel_rfl) rfl #[.agg #[.int .i64 ak, .int .i64 an, .string au]] (by rfl) rfl rfl (by (try simp only [List.map_toArray, List.map_cons, List.map_nil]); first | done | rfl) ?_
      refine (toV _ _ _ _).mono ?_
      rintro e w16 ⟨rfl, hb⟩
      refine ⟨_, rfl, ?_⟩
      refine hK.out _ _ (hI.step hb) (fun hI' => ?_)
      clear hK K hb hI
      have hI := hI'
      clear hI'
      refine norm_ (a' := ?_) ?_ ?_
      rotate_left
      · show Act.put _ (some 30) _ = _
        simp only [Act.put, List.setIfInBounds_toArray, List.set_cons_zero, List.set_cons_succ]
        rfl
      refine two_ (i := 3) (j := 8) (Ni := (some 32)) (Nj := (some 8)) #[true, true, true, true, false, false, false, false, false, false, false] #[true, true, true, false, false, false, false, false, true, false, false] rfl rfl rfl rfl (by kernel_rfl) (by decide) (by decide) (fun K hK => ?_) (fun K hK => ?_)
      · skip
        refine goes_ Try.func17 (by kernel_rfl) rfl #[.agg #[.int .i64 bk, .int .i64 bn, .string bu]] (by rfl) rfl rfl (by (try simp only [List.map_toArray, List.map_cons, List.map_nil]); first | done | rfl) ?_
        refine (toV _ _ _ _).mono ?_
        rintro e w17 ⟨rfl, hb⟩
        refine ⟨_, rfl, ?_⟩
        refine hK.out _ _ (hI.step hb) (fun hI' => ?_)
        clear hK K hb hI
        have hI := hI'
        clear hI'
        refine norm_ (a' := ?_) ?_ ?_
        rotate_left
        · show Act.put _ (some 32) _ = _
          simp only [Act.put, List.setIfInBounds_toArray, List.set_cons_zero, List.set_cons_succ]
          rfl
        refine two_ (i := 4) (j := 8) (Ni := (some 33)) (Nj := (some 8)) #[true, true, true, true, true, false, false, false, false, false, false] #[true, true, true, true, false, false, false, false, true, false, false] rfl rfl rfl rfl (by kernel_rfl) (by decide) (by decide) (fun K hK => ?_) (fun K hK => ?_)
        · skip
          refine goes_ Try.func35 (by kernel_rfl) rfl #[.agg #[.int .i64 ak, .int .i64 an, .string au], .agg #[.int .i64 bk, .int .i64 bn, .string bu]] (by rfl) rfl rfl (by (try simp only [List.map_toArray, List.map_cons, List.map_nil]); first | done | rfl) ?_
          refine (addI _ _ _ _ _ _ _ (by unfold maxLen at hma; omega) (by omega) (by omega)).mono ?_
          rintro e w18 ⟨rfl, hb⟩
          refine ⟨_, rfl, ?_⟩
          refine hK.out _ _ (hI.step hb) (fun hI' => ?_)
          clear hK K hb hI
          have hI := hI'
          clear hI'
          refine norm_ (a' := ?_) ?_ ?_
          rotate_left
          · show Act.put _ (some 33) _ = _
            simp only [Act.put, List.setIfInBounds_toArray, List.set_cons_zero, List.set_cons_succ]
            rfl
          refine pure_ (i := 5) (N := (some 28)) (v := ?_) (a' := ?_) #[true, true, true, true, true, true, false, false, false, false, false] rfl rfl (by kernel_rfl) (fun _ _ _ h => h) (Or.inl ⟨by rfl, ?_⟩) ?_ ?_
          rotate_left
          · intro w'
            go_simp
            with_reducible rfl
          rotate_left
          · simp only [Act.put, List.setIfInBounds_toArray, List.set_cons_zero, List.set_cons_succ]
            rfl
          refine pure_ (i := 6) (N := (some 34)) (v := ?_) (a' := ?_) #[true, true, true, true, true, true, true, false, false, false, false] rfl rfl (by kernel_rfl) (fun _ _ _ h => h) (Or.inl ⟨by rfl, ?_⟩) ?_ ?_
          rotate_left
          · intro w'
            go_simp
            with_reducible rfl
          rotate_left
          · simp only [Act.put, List.setIfInBounds_toArray, List.set_cons_zero, List.set_cons_succ]
            rfl
          refine pure_ (i := 7) (N := (some 35)) (v := ?_) (a' := ?_) #[true, true, true, true, true, true, true, true, false, false, false] rfl rfl (by kernel_rfl) (fun _ _ _ h => h) (Or.inl ⟨by rfl, ?_⟩) ?_ ?_
          rotate_left
          · intro w'
            go_simp
            with_reducible rfl
          rotate_left
          · simp only [Act.put, List.setIfInBounds_toArray, List.set_cons_zero, List.set_cons_succ]
            rfl
          refine one_ (i := 8) (N := (some 8)) #[true, true, true, true, true, true, true, true, true, false, false] rfl rfl (by kernel_rfl) (by decide) (fun K hK => ?_)
          refine value_ (w1 := ?_) (v := ?_) (by rfl) rfl ?_ ?_
          rotate_left 2
          · go_simp
            constructor
            · rfl
            · rfl
          have hN := New.made hI (.cells #[.int .i64 0, .int .i64 0, .string (⟨#[]⟩ : ByteArray)] 26 (0, 0))
          refine hK.out _ _ (hI.alloc _) (fun hI' => ?_)
          clear hK K hI
          have hI := hI'
          clear hI'
          refine norm_ (a' := ?_) ?_ ?_
          rotate_left
          · show Act.put _ (some 8) _ = _
            simp only [Act.put, List.setIfInBounds_toArray, List.set_cons_zero, List.set_cons_succ]
            rfl
          exact norm_ (by simp only [putAll, Act.put, List.setIfInBounds_toArray, List.set_cons_zero, List.set_cons_succ]) (hC _ _ ⟨hI, hN⟩)
        · skip
          refine value_ (w1 := ?_) (v := ?_) (by rfl) rfl ?_ ?_
          rotate_left 2
          · go_simp
            constructor
            · rfl
            · rfl
          have hN := New.made hI (.cells #[.int .i64 0, .int .i64 0, .string (⟨#[]⟩ : ByteArray)] 26 (0, 0))
          refine hK.out _ _ (hI.alloc _) (fun hI' => ?_)
          clear hK K hI
          have hI := hI'
          clear hI'
          refine norm_ (a' := ?_) ?_ ?_
          rotate_left
          · show Act.put _ (some 8) _ = _
            simp only [Act.put, List.setIfInBounds_toArray, List.set_cons_zero, List.set_cons_succ]
            rfl
          refine one_ (i := 4) (N := (some 33)) #[true, true, true, true, true, false, false, false, true, false, false] rfl rfl (by kernel_rfl) (by decide) (fun K hK => ?_)
          refine goes_ Try.func35 (by kernel_rfl) rfl #[.agg #[.int .i64 ak, .int .i64 an, .string au], .agg #[.int .i64 bk, .int .i64 bn, .string bu]] (by rfl) rfl rfl (by (try simp only [List.map_toArray, List.map_cons, List.map_nil]); first | done | rfl) ?_
          refine (addI _ _ _ _ _ _ _ (by unfold maxLen at hma; omega) (by omega) (by omega)).mono ?_
          rintro e w19 ⟨rfl, hb⟩
          refine ⟨_, rfl, ?_⟩
          replace hN := hN.step hb
          refine hK.out _ _ (hI.step hb) (fun hI' => ?_)
          clear hK K hb hI
          have hI := hI'
          clear hI'
          refine norm_ (a' := ?_) ?_ ?_
          rotate_left
          · show Act.put _ (some 33) _ = _
            simp only [Act.put, List.setIfInBounds_toArray, List.set_cons_zero, List.set_cons_succ]
            rfl
          refine pure_ (i := 5) (N := (some 28)) (v := ?_) (a' := ?_) #[true, true, true, true, true, true, false, false, true, false, false] rfl rfl (by kernel_rfl) (fun _ _ _ h => h) (Or.inl ⟨by rfl, ?_⟩) ?_ ?_
          rotate_left
          · intro w'
            go_simp
            with_reducible rfl
          rotate_left
          · simp only [Act.put, List.setIfInBounds_toArray, List.set_cons_zero, List.set_cons_succ]
            rfl
          refine pure_ (i := 6) (N := (some 34)) (v := ?_) (a' := ?_) #[true, true, true, true, true, true, true, false, true, false, false] rfl rfl (by kernel_rfl) (fun _ _ _ h => h) (Or.inl ⟨by rfl, ?_⟩) ?_ ?_
          rotate_left
          · intro w'
            go_simp
            with_reducible rfl
          rotate_left
          · simp only [Act.put, List.setIfInBounds_toArray, List.set_cons_zero, List.set_cons_succ]
            rfl
          refine pure_ (i := 7) (N := (some 35)) (v := ?_) (a' := ?_) #[true, true, true, true, true, true, true, true, true, false, false] rfl rfl (by kernel_rfl) (fun _ _ _ h => h) (Or.inl ⟨by rfl, ?_⟩) ?_ ?_
          rotate_left
          · intro w'
            go_simp
            with_reducible rfl
          rotate_left
          · simp only [Act.put, List.setIfInBounds_toArray, List.set_cons_zero, List.set_cons_succ]
            rfl
          exact norm_ (by simp only [putAll, Act.put, List.setIfInBounds_toArray, List.set_cons_zero, List.set_cons_succ]) (hC _ _ ⟨hI, hN⟩)
      · skip
        refine value_ (w1 := ?_) (v := ?_) (by rfl) rfl ?_ ?_
        rotate_left 2
        · go_simp
          constructor
          · rfl
          · rfl
        have hN := New.made hI (.cells #[.int .i64 0, .int .i64 0, .string (⟨#[]⟩ : ByteArray)] 26 (0, 0))
        refine hK.out _ _ (hI.alloc _) (fun hI' => ?_)
        clear hK K hI
        have hI := hI'
        clear hI'
        refine norm_ (a' := ?_) ?_ ?_
        rotate_left
        · show Act.put _ (some 8) _ = _
          simp only [Act.put, List.setIfInBounds_toArray, List.set_cons_zero, List.set_cons_succ]
          rfl
        refine one_ (i := 3) (N := (some 32)) #[true, true, true, true, false, false, false, false, true, false, false] rfl rfl (by kernel_rfl) (by decide) (fun K hK => ?_)
        refine goes_ Try.func17 (by kernel_rfl) rfl #[.agg #[.int .i64 bk, .int .i64 bn, .string bu]] (by rfl) rfl rfl (by (try simp only [List.map_toArray, List.map_cons, List.map_nil]); first | done | rfl) ?_
        refine (toV _ _ _ _).mono ?_
        rintro e w20 ⟨rfl, hb⟩
        refine ⟨_, rfl, ?_⟩
        replace hN := hN.step hb
        refine hK.out _ _ (hI.step hb) (fun hI' => ?_)
        clear hK K hb hI
        have hI := hI'
        clear hI'
        refine norm_ (a' := ?_) ?_ ?_
        rotate_left
        · show Act.put _ (some 32) _ = _
          simp only [Act.put, List.setIfInBounds_toArray, List.set_cons_zero, List.set_cons_succ]
          rfl
        refine one_ (i := 4) (N := (some 33)) #[true, true, true, true, true, false, false, false, true, false, false] rfl rfl (by kernel_rfl) (by decide) (fun K hK => ?_)
        refine goes_ Try.func35 (by kernel_rfl) rfl #[.agg #[.int .i64 ak, .int .i64 an, .string au], .agg #[.int .i64 bk, .int .i64 bn, .string bu]] (by rfl) rfl rfl (by (try simp only [List.map_toArray, List.map_cons, List.map_nil]); first | done | rfl) ?_
        refine (addI _ _ _ _ _ _ _ (by unfold maxLen at hma; omega) (by omega) (by omega)).mono ?_
        rintro e w21 ⟨rfl, hb⟩
        refine ⟨_, rfl, ?_⟩
        replace hN := hN.step hb
        refine hK.out _ _ (hI.step hb) (fun hI' => ?_)
        clear hK K hb hI
        have hI := hI'
        clear hI'
        refine norm_ (a' := ?_) ?_ ?_
        rotate_left
        · show Act.put _ (some 33) _ = _
          simp only [Act.put, List.setIfInBounds_toArray, List.set_cons_zero, List.set_cons_succ]
          rfl
        refine pure_ (i := 5) (N := (some 28)) (v := ?_) (a' := ?_) #[true, true, true, true, true, true, false, false, true, false, false] rfl rfl (by kernel_rfl) (fun _ _ _ h => h) (Or.inl ⟨by rfl, ?_⟩) ?_ ?_
        rotate_left
        · intro w'
          go_simp
          with_reducible rfl
        rotate_left
        · simp only [Act.put, List.setIfInBounds_toArray, List.set_cons_zero, List.set_cons_succ]
          rfl
        refine pure_ (i := 6) (N := (some 34)) (v := ?_) (a' := ?_) #[true, true, true, true, true, true, true, false, true, false, false] rfl rfl (by kernel_rfl) (fun _ _ _ h => h) (Or.inl ⟨by rfl, ?_⟩) ?_ ?_
        rotate_left
        · intro w'
          go_simp
          with_reducible rfl
        rotate_left
        · simp only [Act.put, List.setIfInBounds_toArray, List.set_cons_zero, List.set_cons_succ]
          rfl
        refine pure_ (i := 7) (N := (some 35)) (v := ?_) (a' := ?_) #[true, true, true, true, true, true, true, true, true, false, false] rfl rfl (by kernel_rfl) (fun _ _ _ h => h) (Or.inl ⟨by rfl, ?_⟩) ?_ ?_
        rotate_left
        · intro w'
          go_simp
          with_reducible rfl
        rotate_left
        · simp only [Act.put, List.setIfInBounds_toArray, List.set_cons_zero, List.set_cons_succ]
          rfl
        exact norm_ (by simp only [putAll, Act.put, List.setIfInBounds_toArray, List.set_cons_zero, List.set_cons_succ]) (hC _ _ ⟨hI, hN⟩)
    · skip
      refine value_ (w1 := ?_) (v := ?_) (by rfl) rfl ?_ ?_
      rotate_left 2
      · go_simp
        constructor
        · rfl
        · rfl
      have hN := New.made hI (.cells #[.int .i64 0, .int .i64 0, .string (⟨#[]⟩ : ByteArray)] 26 (0, 0))
      refine hK.out _ _ (hI.alloc _) (fun hI' => ?_)
      clear hK K hI
      have hI := hI'
      clear hI'
      refine norm_ (a' := ?_) ?_ ?_
      rotate_left
      · show Act.put _ (some 8) _ = _
        simp only [Act.put, List.setIfInBounds_toArray, List.set_cons_zero, List.set_cons_succ]
        rfl
      refine one_ (i := 1) (N := (some 30)) #[true, true, true, false, false, false, false, false, true, false, false] rfl rfl (by kernel_rfl) (by decide) (fun K hK => ?_)
      refine goes_ Try.func17 (by kernel_rfl) rfl #[.agg #[.int .i64 ak, .int .i64 an, .string au]] (by rfl) rfl rfl (by (try simp only [List.map_toArray, List.map_cons, List.map_nil]); first | done | rfl) ?_
      refine (toV _ _ _ _).mono ?_
      rintro e w22 ⟨rfl, hb⟩
      refine ⟨_, rfl, ?_⟩
      replace hN := hN.step hb
      refine hK.out _ _ (hI.step hb) (fun hI' => ?_)
      clear hK K hb hI
      have hI := hI'
      clear hI'
      refine norm_ (a' := ?_) ?_ ?_
      rotate_left
      · show Act.put _ (some 30) _ = _
        simp only [Act.put, List.setIfInBounds_toArray, List.set_cons_zero, List.set_cons_succ]
        rfl
      refine one_ (i := 3) (N := (some 32)) #[true, true, true, true, false, false, false, false, true, false, false] rfl rfl (by kernel_rfl) (by decide) (fun K hK => ?_)
      refine goes_ Try.func17 (by kernel_rfl) rfl #[.agg #[.int .i64 bk, .int .i64 bn, .string bu]] (by rfl) rfl rfl (by (try simp only [List.map_toArray, List.map_cons, List.map_nil]); first | done | rfl) ?_
      refine (toV _ _ _ _).mono ?_
      rintro e w23 ⟨rfl, hb⟩
      refine ⟨_, rfl, ?_⟩
      replace hN := hN.step hb
      refine hK.out _ _ (hI.step hb) (fun hI' => ?_)
      clear hK K hb hI
      have hI := hI'
      clear hI'
      refine norm_ (a' := ?_) ?_ ?_
      rotate_left
      · show Act.put _ (some 32) _ = _
        simp only [Act.put, List.setIfInBounds_toArray, List.set_cons_zero, List.set_cons_succ]
        rfl
      refine one_ (i := 4) (N := (some 33)) #[true, true, true, true, true, false, false, false, true, false, false] rfl rfl (by kernel_rfl) (by decide) (fun K hK => ?_)
      refine goes_ Try.func35 (by kernel_rfl) rfl #[.agg #[.int .i64 ak, .int .i64 an, .string au], .agg #[.int .i64 bk, .int .i64 bn, .string bu]] (by rfl) rfl rfl (by (try simp only [List.map_toArray, List.map_cons, List.map_nil]); first | done | rfl) ?_
      refine (addI _ _ _ _ _ _ _ (by unfold maxLen at hma; omega) (by omega) (by omega)).mono ?_
      rintro e w24 ⟨rfl, hb⟩
      refine ⟨_, rfl, ?_⟩
      replace hN := hN.step hb
      refine hK.out _ _ (hI.step hb) (fun hI' => ?_)
      clear hK K hb hI
      have hI := hI'
      clear hI'
      refine norm_ (a' := ?_) ?_ ?_
      rotate_left
      · show Act.put _ (some 33) _ = _
        simp only [Act.put, List.setIfInBounds_toArray, List.set_cons_zero, List.set_cons_succ]
        rfl
      refine pure_ (i := 5) (N := (some 28)) (v := ?_) (a' := ?_) #[true, true, true, true, true, true, false, false, true, false, false] rfl rfl (by kernel_rfl) (fun _ _ _ h => h) (Or.inl ⟨by rfl, ?_⟩) ?_ ?_
      rotate_left
      · intro w'
        go_simp
        with_reducible rfl
      rotate_left
      · simp only [Act.put, List.setIfInBounds_toArray, List.set_cons_zero, List.set_cons_succ]
        rfl
      refine pure_ (i := 6) (N := (some 34)) (v := ?_) (a' := ?_) #[true, true, true, true, true, true, true, false, true, false, false] rfl rfl (by kernel_rfl) (fun _ _ _ h => h) (Or.inl ⟨by rfl, ?_⟩) ?_ ?_
      rotate_left
      · intro w'
        go_simp
        with_reducible rfl
      rotate_left
      · simp only [Act.put, List.setIfInBounds_toArray, List.set_cons_zero, List.set_cons_succ]
        rfl
      refine pure_ (i := 7) (N := (some 35)) (v := ?_) (a' := ?_) #[true, true, true, true, true, true, true, true, true, false, false] rfl rfl (by kernel_rfl) (fun _ _ _ h => h) (Or.inl ⟨by rfl, ?_⟩) ?_ ?_
      rotate_left
      · intro w'
        go_simp
        with_reducible rfl
      rotate_left
      · simp only [Act.put, List.setIfInBounds_toArray, List.set_cons_zero, List.set_cons_succ]
        rfl
      exact norm_ (by simp only [putAll, Act.put, List.setIfInBounds_toArray, List.set_cons_zero, List.set_cons_succ]) (hC _ _ ⟨hI, hN⟩)
  rintro g5 w25 ⟨hI', hN⟩
  clear hI
  have hI := hI'
  clear hI'
  refine norm_ (a' := ?_) ?_ ?_
  rotate_left
  · simp only [putAll, Act.put, List.setIfInBounds_toArray, List.set_cons_zero, List.set_cons_succ]
    rfl
  refine one_ (i := 9) (N := none) #[true, true, true, true, true, true, true, true, true, true, false] rfl rfl (by kernel_rfl) (by decide) (fun K hK => ?_)
  refine skip_ (w1 := ?_) (by rfl) rfl ?_ ?_
  rotate_left
  · have c := hN.cell
    have f := hN.free
    go_simp
    rfl
  refine hK.out _ _ (New.inv3 hI hN _ _ _) (fun hI' => ?_)
  clear hK K
  have hN' := hN.put3 (u0 := .int .i64 (addV ⟨ak, an, au⟩ ⟨bk, bn, bu⟩).k) (u1 := .int .i64 (addV ⟨ak, an, au⟩ ⟨bk, bn, bu⟩).n) (u2 := .string (addV ⟨ak, an, au⟩ ⟨bk, bn, bu⟩).s)
  have hI2 := hI'.cons hN'.blk
  clear hI hI' hN hN'
  have hI := hI2
  clear hI2
  refine pure_ (i := 10) (N := (some 9)) (v := ?_) (a' := ?_) #[true, true, true, true, true, true, true, true, true, true, true] rfl rfl (by kernel_rfl) (fun _ _ _ h => h) (Or.inl ⟨by rfl, ?_⟩) ?_ ?_
  rotate_left
  · intro w'
    go_simp
    with_reducible rfl
  rotate_left
  · simp only [Act.put, List.setIfInBounds_toArray, List.set_cons_zero, List.set_cons_succ]
    rfl
  refine done_ (by kernel_rfl) ?_
  generalize (((w25.setCell ⟨g5, 0, none⟩ (.int .i64 (addV ⟨ak, an, au⟩ ⟨bk, bn, bu⟩).k)).setCell ⟨g5, 1, none⟩ (.int .i64 (addV ⟨ak, an, au⟩ ⟨bk, bn, bu⟩).n)).setCell ⟨g5, 2, none⟩ (.string (addV ⟨ak, an, au⟩ ⟨bk, bn, bu⟩).s)) = w26 at hI ⊢
  have hI6 := hI
  clear hI
  have x6_0 := hI6.cell 0 rfl
  have y6_0 := hI6.lt 0 rfl
  have x6_1 := hI6.cell 1 rfl
  have y6_1 := hI6.lt 1 rfl
  have x6_2 := hI6.cell 2 rfl
  have y6_2 := hI6.lt 2 rfl
  have x6_3 := hI6.cell 3 rfl
  have y6_3 := hI6.lt 3 rfl
  go_wp2_with fail
  refine (eqV _ _ _ _).mono ?_
  rintro e w27 ⟨rfl, hb27⟩
  have hI7 := hI6.step hb27
  clear hb27 x6_0 y6_0 x6_1 y6_1 x6_2 y6_2 x6_3 y6_3 hI6
  have x7_0 := hI7.cell 0 rfl
  have y7_0 := hI7.lt 0 rfl
  have x7_1 := hI7.cell 1 rfl
  have y7_1 := hI7.lt 1 rfl
  have x7_2 := hI7.cell 2 rfl
  have y7_2 := hI7.lt 2 rfl
  have x7_3 := hI7.cell 3 rfl
  have y7_3 := hI7.lt 3 rfl
  go_wp2
  go_ret
  exact ⟨rfl, hI7.bel⟩
end Go.Proofs.Ytkllanigogkbiaa.Val
