/- The reference's look at a tier. -/
import Derived.Test.YthinhlcfpaaldaaGreatTiF
import Derived.Test.YthinhlcfpaaldaaGreatTi3
import Derived.Test.YthinhlcfpaaldaaGreatTiT
namespace Go.Proofs.YthinhlcfpaaldaaGreat.Dat
open Go Go.RowKit Go.Proofs.YthinhlcfpaaldaaGreat.Mem
set_option linter.unusedVariables false
set_option linter.unusedSimpArgs false
theorem any_snoc9 {α : Type} (p : α → Bool) (xs : List α) (k : Nat) (x : α) (h : xs[k]? = some x) : (xs.take (k + 1)).any p = ((xs.take k).any p || p x) := by
  rw [List.take_add_one, h]
  simp
theorem any_here {α : Type} {p : α → Bool} {xs : List α} {j k : Nat} {x : α} (hj : j < k) (h : xs[j]? = some x) (hp : p x = true) : (xs.take k).any p = true :=
  List.any_eq_true.2 ⟨x, List.mem_of_getElem? (by rw [List.getElem?_take_of_lt hj]; exact h), hp⟩
set_option maxHeartbeats 16000000 in
set_option maxRecDepth 100000 in
theorem ok17 (A B A0 A1 A3 A10 A11 A12 : Option Addr) (c0 d0 e0 e1 e3 e10 e11 e12 : Nat) (t : List ByteArray) (l : List DFunc) (ti : DTier) (w : World) (h : HasMod A B t l w) (hgd : isGoodB t l = true) (hc12 : ti.fails.length ≤ e12) (r0 : kFrame.Row w A0 ti.vm.frames.length ti.vm.frames) (r1 : kRec.Row w A1 ti.vm.heap.length ti.vm.heap) (r3 : Knd.str.Row w A3 ti.vm.out.length ti.vm.out) (r10 : kSite.Row w A10 ti.sites.length ti.sites) (r11 : kFast.Row w A11 ti.codes.length ti.codes) (r12 : kFail.Row w A12 ti.fails.length ti.fails) (hM : MTier ti) (hms : msTier ti ≤ 1048576) :
    Calls Tryz.prog 78 #[.agg #[.slice A t.length c0, .slice B l.length d0], .agg #[.slice A0 ti.vm.frames.length e0, .slice A1 ti.vm.heap.length e1, .int .i64 ti.vm.made, .slice A3 ti.vm.out.length e3, .int .i64 ti.vm.status, .int .i64 ti.vm.trap, .int .i64 ti.vm.value.k, .int .i64 ti.vm.value.n, .string ti.vm.value.s, .int .i64 ti.vm.steps, .slice A10 ti.sites.length e10, .slice A11 ti.codes.length e11, .slice A12 ti.fails.length e12, .int .i64 ti.guards, .int .i64 ti.entered]] w fun e w' => e = .returned (.bool (tierB l ti)) ∧ Below w.heap.size w w' := by
  have hfit := modFit (isGood_mod hgd)
  have hm := hfit.n12
  have hnc : ti.codes.length ≤ 1048576 := hM.2.2.1.1
  have hnf : ti.fails.length ≤ 1048576 := hM.2.2.2
  have hns : ti.sites.length ≤ 1048576 := hM.2.1
  have hS := ((St.start w).made (.cells #[.slice A t.length c0, .slice B l.length d0] 36 (0, 0))).madeAt (.cells #[.slice A0 ti.vm.frames.length e0, .slice A1 ti.vm.heap.length e1, .int .i64 ti.vm.made, .slice A3 ti.vm.out.length e3, .int .i64 ti.vm.status, .int .i64 ti.vm.trap, .int .i64 ti.vm.value.k, .int .i64 ti.vm.value.n, .string ti.vm.value.s, .int .i64 ti.vm.steps, .slice A10 ti.sites.length e10, .slice A11 ti.codes.length e11, .slice A12 ti.fails.length e12, .int .i64 ti.guards, .int .i64 ti.entered] 72 (0, 0)) (w.heap.size + 1) (by simp)
  have x_t := hS.cell 0 rfl
  have x_m := hS.cell 1 rfl
  go_enter Tryz.func78, Tryz.ntmps78
  cases hv : vmB l ti.vm
  · have E := Lib.hid (show tierB l ti = false by unfold tierB; rw [hv]; simp)
    have HV := Lib.hid hv
    clear hv
    go_wp2_with fail
    refine (vm03 A B A0 A1 A3 c0 d0 e0 e1 e3 t l ti.vm _ (h.below hS.bel) hfit (r0.below hS.bel) (r1.below hS.bel) (r3.below hS.bel) hM.1).mono ?_
    rintro e w5 ⟨rfl, hb5⟩
    rw [HV.out]
    replace hS := hS.step hb5
    clear x_t x_m hb5
    have x_t := hS.cell 0 rfl
    have x_m := hS.cell 1 rfl
    go_wp2
    go_ret
    exact ⟨ret_bool E.out.symm, hS.bel⟩
  have HV := Lib.hid hv
  cases hp : profB l ti.sites
  · have E := Lib.hid (show tierB l ti = false by unfold tierB; rw [hp]; simp)
    have HP := Lib.hid hp
    clear hp hv
    go_wp2_with fail
    refine (vm03 A B A0 A1 A3 c0 d0 e0 e1 e3 t l ti.vm _ (h.below hS.bel) hfit (r0.below hS.bel) (r1.below hS.bel) (r3.below hS.bel) hM.1).mono ?_
    rintro e w5 ⟨rfl, hb5⟩
    rw [HV.out]
    replace hS := hS.step hb5
    clear x_t x_m hb5
    have x_t := hS.cell 0 rfl
    have x_m := hS.cell 1 rfl
    go_wp2_with fail
    refine (prof3 A B A10 c0 d0 e10 t l ti.sites _ (h.below hS.bel) (r10.below hS.bel) hns).mono ?_
    rintro e w5 ⟨rfl, hb5⟩
    rw [HP.out]
    replace hS := hS.step hb5
    clear x_t x_m hb5
    have x_t := hS.cell 0 rfl
    have x_m := hS.cell 1 rfl
    go_wp2
    go_ret
    exact ⟨ret_bool E.out.symm, hS.bel⟩
  have HP := Lib.hid hp
  by_cases h8 : (ti.codes.length : Int) ≤ 8
  rotate_left
  · have E := Lib.hid (show tierB l ti = false by unfold tierB; rw [decide_eq_false (show ¬ ti.codes.length ≤ 8 by omega)]; simp)
    clear hp hv
    go_wp2_with fail
    refine (vm03 A B A0 A1 A3 c0 d0 e0 e1 e3 t l ti.vm _ (h.below hS.bel) hfit (r0.below hS.bel) (r1.below hS.bel) (r3.below hS.bel) hM.1).mono ?_
    rintro e w5 ⟨rfl, hb5⟩
    rw [HV.out]
    replace hS := hS.step hb5
    clear x_t x_m hb5
    have x_t := hS.cell 0 rfl
    have x_m := hS.cell 1 rfl
    go_wp2_with fail
    refine (prof3 A B A10 c0 d0 e10 t l ti.sites _ (h.below hS.bel) (r10.below hS.bel) hns).mono ?_
    rintro e w5 ⟨rfl, hb5⟩
    rw [HP.out]
    replace hS := hS.step hb5
    clear x_t x_m hb5
    have x_t := hS.cell 0 rfl
    have x_m := hS.cell 1 rfl
    go_wp2
    go_ret
    exact ⟨ret_bool E.out.symm, hS.bel⟩
  by_cases h150 : (ti.fails.length : Int) ≤ 150
  rotate_left
  · have E := Lib.hid (show tierB l ti = false by unfold tierB failsB; rw [decide_eq_false (show ¬ ti.fails.length ≤ 150 by omega)]; simp)
    clear hp hv
    go_wp2_with fail
    refine (vm03 A B A0 A1 A3 c0 d0 e0 e1 e3 t l ti.vm _ (h.below hS.bel) hfit (r0.below hS.bel) (r1.below hS.bel) (r3.below hS.bel) hM.1).mono ?_
    rintro e w5 ⟨rfl, hb5⟩
    rw [HV.out]
    replace hS := hS.step hb5
    clear x_t x_m hb5
    have x_t := hS.cell 0 rfl
    have x_m := hS.cell 1 rfl
    go_wp2_with fail
    refine (prof3 A B A10 c0 d0 e10 t l ti.sites _ (h.below hS.bel) (r10.below hS.bel) hns).mono ?_
    rintro e w5 ⟨rfl, hb5⟩
    rw [HP.out]
    replace hS := hS.step hb5
    clear x_t x_m hb5
    have x_t := hS.cell 0 rfl
    have x_m := hS.cell 1 rfl
    go_wp2
    go_ret
    exact ⟨ret_bool E.out.symm, hS.bel⟩
  cases ht : btw ti.entered 0 1000000000
  · have E := Lib.hid (show tierB l ti = false by unfold tierB; rw [ht]; simp)
    have HT := Lib.hid ht
    clear hp hv ht
    go_wp2_with fail
    refine (vm03 A B A0 A1 A3 c0 d0 e0 e1 e3 t l ti.vm _ (h.below hS.bel) hfit (r0.below hS.bel) (r1.below hS.bel) (r3.below hS.bel) hM.1).mono ?_
    rintro e w5 ⟨rfl, hb5⟩
    rw [HV.out]
    replace hS := hS.step hb5
    clear x_t x_m hb5
    have x_t := hS.cell 0 rfl
    have x_m := hS.cell 1 rfl
    go_wp2_with fail
    refine (prof3 A B A10 c0 d0 e10 t l ti.sites _ (h.below hS.bel) (r10.below hS.bel) hns).mono ?_
    rintro e w5 ⟨rfl, hb5⟩
    rw [HP.out]
    replace hS := hS.step hb5
    clear x_t x_m hb5
    have x_t := hS.cell 0 rfl
    have x_m := hS.cell 1 rfl
    go_wp2_with (go_at_call 121; (with_reducible refine (between _ HT.out).mono ?_); rintro e w' ⟨rfl, rfl⟩)
    go_ret
    exact ⟨ret_bool E.out.symm, hS.bel⟩
  have HT := Lib.hid ht
  have E5 := Lib.hid (show tierB l ti = (codesB l ti.codes && ((List.range ti.fails.length).all (failAt l ti.fails) && decide (ti.guards = sumF ti.fails))) by
    simp only [tierB, failsB, hv, hp, ht, decide_eq_true (show ti.codes.length ≤ 8 by omega), decide_eq_true (show ti.fails.length ≤ 150 by omega), Bool.true_and, Bool.and_true])
  clear hv hp ht
  go_wp2_with fail
  refine (vm03 A B A0 A1 A3 c0 d0 e0 e1 e3 t l ti.vm _ (h.below hS.bel) hfit (r0.below hS.bel) (r1.below hS.bel) (r3.below hS.bel) hM.1).mono ?_
  rintro e w5 ⟨rfl, hb5⟩
  rw [HV.out]
  replace hS := hS.step hb5
  clear x_t x_m hb5
  have x_t := hS.cell 0 rfl
  have x_m := hS.cell 1 rfl
  go_wp2_with fail
  refine (prof3 A B A10 c0 d0 e10 t l ti.sites _ (h.below hS.bel) (r10.below hS.bel) hns).mono ?_
  rintro e w5 ⟨rfl, hb5⟩
  rw [HP.out]
  replace hS := hS.step hb5
  clear x_t x_m hb5
  have x_t := hS.cell 0 rfl
  have x_m := hS.cell 1 rfl
  go_wp2_with (go_at_call 121; (with_reducible refine (between _ HT.out).mono ?_); rintro e w' ⟨rfl, rfl⟩)
  go_loopw [5] (fun i wr => ∃ k : Nat, k ≤ ti.codes.length ∧ i = .int .i64 k ∧ Hid ((List.range k).all (codeAtB l ti.codes) = true) ∧ St w [Res.box (w.heap.size + 1) (.cells #[.slice A0 ti.vm.frames.length e0, .slice A1 ti.vm.heap.length e1, .int .i64 ti.vm.made, .slice A3 ti.vm.out.length e3, .int .i64 ti.vm.status, .int .i64 ti.vm.trap, .int .i64 ti.vm.value.k, .int .i64 ti.vm.value.n, .string ti.vm.value.s, .int .i64 ti.vm.steps, .slice A10 ti.sites.length e10, .slice A11 ti.codes.length e11, .slice A12 ti.fails.length e12, .int .i64 ti.guards, .int .i64 ti.entered] 72 (0, 0)), Res.box w.heap.size (.cells #[.slice A t.length c0, .slice B l.length d0] 36 (0, 0))] wr) (fun i _ => ti.codes.length - (intOf i).toNat)
  case atStart => exact ⟨0, by omega, rfl, Lib.hid rfl, hS⟩
  case round =>
    clear hS
    obtain ⟨k, hk, rfl, hb, hS⟩ := hrel
    have x_t := hS.cell 0 rfl
    have x_m := hS.cell 1 rfl
    by_cases hlt : k < ti.codes.length
    · obtain ⟨x, hx⟩ := get_exU ti.codes k hlt
      have hmx := ms_code hms (List.mem_of_getElem? hx)
      obtain ⟨ad, A4, A5, c4, c5, rfl, q0', q1', q2', q3', q4', q5', hl4, hr4, hl5, hr5⟩ := kFast_at r11 k x hx
      have HA := Lib.hid (codeAt_of (l := l) hx)
      have HNO := Lib.hid (fun h : codeAtB l ti.codes k = false => show tierB l ti = false by rw [tier_eq]; unfold codesB; rw [range_no hlt h, Bool.false_and])
      have k0 : (0 : Int) ≤ (k : Int) := by omega
      have k1 : (k : Int) < ti.codes.length := by omega
      have CI : ∀ W, Below w.heap.size w W → Calls Tryz.prog 128 #[.agg #[.slice A t.length c0, .slice B l.length d0], .agg #[.int .i64 x.fn, .int .i64 x.entry, .int .i64 x.vals, .int .i64 x.nums, .slice A4 x.ops.length c4, .slice A5 x.exits.length c5]] W fun e w' => e = .returned (.bool (fastB l x)) ∧ Below W.heap.size W w' := fun W hW => ok10 A B A4 A5 c0 d0 c4 c5 t l x W (h.below hW) hgd (hr4.below hW) (hr5.below hW) hmx
      obtain ⟨fn, en, va, nu, ops, exs⟩ := x
      dsimp only at q0' q1' q2' q3' q4' q5' CI
      clear hx hl4 hl5 hr4 hr5 hmx
      go_wp2
      clear x_t x_m
      replace hS := hS.drew
      refine wp_region_held_drew (S := (fun (w' : World) => w'.cell? ⟨w.heap.size, 0, none⟩ = some (.slice A t.length c0) ∧ w'.cell? ⟨w.heap.size, 1, none⟩ = some (.slice B l.length d0) ∧ w'.cell? ⟨w.heap.size + 1, 11, none⟩ = some (.slice (some ad) ti.codes.length e11) ∧ w'.cell? (ad.add (k * 6)) = some (.int .i64 fn) ∧ w'.cell? ⟨(ad.add (k * 6)).block, (ad.add (k * 6)).off + 1, none⟩ = some (.int .i64 en) ∧ w'.cell? ⟨(ad.add (k * 6)).block, (ad.add (k * 6)).off + 2, none⟩ = some (.int .i64 va) ∧ w'.cell? ⟨(ad.add (k * 6)).block, (ad.add (k * 6)).off + 3, none⟩ = some (.int .i64 nu) ∧ w'.cell? ⟨(ad.add (k * 6)).block, (ad.add (k * 6)).off + 4, none⟩ = some (.slice A4 ops.length c4) ∧ w'.cell? ⟨(ad.add (k * 6)).block, (ad.add (k * 6)).off + 5, none⟩ = some (.slice A5 exs.length c5))) (by kernel_rfl) (⟨hS.cell 1 rfl 0, hS.cell 1 rfl 1, hS.cell 0 rfl 11, kept hS.bel q0', kept hS.bel q1', kept hS.bel q2', kept hS.bel q3', kept hS.bel q4', kept hS.bel q5'⟩) (fun hHeld => ?_)
      (iterate 6 (first | refine rQ1 ?_ | refine rQ2 ?_); try simp only [pP])
      cases hfx : fastB l ⟨fn, en, va, nu, ops, exs⟩
      · have HF := Lib.hid hfx
        have E := Lib.hid (HNO.out (by rw [HA.out, hfx, Bool.false_and]))
        clear hfx
        refine regC 6 rfl (by kernel_rfl) (by rfl) (fun Kq hKq => ?_)
        go_simp
        (with_reducible refine (CI _ hS.bel).mono ?_)
        rintro e w5 ⟨rfl, hb5⟩; rw [HF.out]; have hS5 := hS.step hb5; clear hb5
        try go_wp2_with fail
        refine hKq.out _ _ (⟨hS5.cell 1 rfl 0, hS5.cell 1 rfl 1, hS5.cell 0 rfl 11, kept hS5.bel q0', kept hS5.bel q1', kept hS5.bel q2', kept hS5.bel q3', kept hS5.bel q4', kept hS5.bel q5'⟩) (fun hHeld => ?_)
        clear hKq Kq
        (try simp only [pP])
        (first | refine rQ1 ?_ | refine rQ2 ?_); (try simp only [pP])
        refine wpAnyH_done (by kernel_rfl) ?_ _
        clear hHeld
        go_wp2
        go_ret
        exact ⟨ret_bool E.out.symm, hS5.bel⟩
      have HF := Lib.hid hfx
      have HA2 := Lib.hid (show codeAtB l ti.codes k = !((ti.codes.take k).any (fun q => sameC q ⟨fn, en, va, nu, ops, exs⟩)) by rw [HA.out, hfx, Bool.true_and])
      clear hfx
      refine regC 6 rfl (by kernel_rfl) (by rfl) (fun Kq hKq => ?_)
      go_simp
      (with_reducible refine (CI _ hS.bel).mono ?_)
      rintro e w5 ⟨rfl, hb5⟩; rw [HF.out]; have hS5 := hS.step hb5; clear hb5
      try go_wp2_with fail
      refine hKq.out _ _ (⟨hS5.cell 1 rfl 0, hS5.cell 1 rfl 1, hS5.cell 0 rfl 11, kept hS5.bel q0', kept hS5.bel q1', kept hS5.bel q2', kept hS5.bel q3', kept hS5.bel q4', kept hS5.bel q5'⟩) (fun hHeld => ?_)
      clear hKq Kq
      (try simp only [pP])
      (first | refine rW 7 ?_ | refine rV 7 ?_); (try simp only [pP])
      refine wpAnyH_done (by kernel_rfl) ?_ _
      clear hHeld hS
      go_wp2
      go_loopw [6] (fun i wr => ∃ j : Nat, j ≤ k ∧ i = .int .i64 j ∧ Hid ((ti.codes.take j).any (fun q => sameC q ⟨fn, en, va, nu, ops, exs⟩) = false) ∧ St w [Res.box (w.heap.size + 1) (.cells #[.slice A0 ti.vm.frames.length e0, .slice A1 ti.vm.heap.length e1, .int .i64 ti.vm.made, .slice A3 ti.vm.out.length e3, .int .i64 ti.vm.status, .int .i64 ti.vm.trap, .int .i64 ti.vm.value.k, .int .i64 ti.vm.value.n, .string ti.vm.value.s, .int .i64 ti.vm.steps, .slice A10 ti.sites.length e10, .slice (some ad) ti.codes.length e11, .slice A12 ti.fails.length e12, .int .i64 ti.guards, .int .i64 ti.entered] 72 (0, 0)), Res.box w.heap.size (.cells #[.slice A t.length c0, .slice B l.length d0] 36 (0, 0))] wr) (fun i _ => k - (intOf i).toNat)
      case atStart => exact ⟨0, by omega, rfl, Lib.hid rfl, hS5⟩
      case round =>
        clear hS5
        obtain ⟨j, hj, rfl, hno, hS⟩ := hrel
        by_cases hjk : j < k
        · obtain ⟨y, hy⟩ := get_exU ti.codes j (by omega)
          obtain ⟨ad2, A42, A52, c42, c52, e2, p0', p1', p2', p3', p4', p5', _⟩ := kFast_at r11 j y hy
          cases e2
          have HSN := Lib.hid (any_snoc9 (fun q => sameC q ⟨fn, en, va, nu, ops, exs⟩) ti.codes j y hy)
          have HDU := Lib.hid (fun hp => any_here (p := fun q => sameC q ⟨fn, en, va, nu, ops, exs⟩) hjk hy hp)
          obtain ⟨f2, n2, v2, m2, o2, z2⟩ := y
          dsimp only at p0' p1'
          have j0 : (0 : Int) ≤ (j : Int) := by omega
          have j1 : (j : Int) < ti.codes.length := by omega
          have j2 : j < ti.codes.length := by omega
          have j3 : (j : Int) < k := by omega
          clear hy p2' p3' p4' p5'
          go_wp2
          have hD := hS.drew
          clear hS
          by_cases g1 : f2 = fn
          · subst g1
            by_cases g2 : n2 = en
            · subst g2
              have E := Lib.hid (HNO.out (by rw [HA2.out, HDU.out (by simp [sameC])]; rfl))
              refine wp_region_held_drew (S := (fun (w' : World) => w'.cell? ⟨w.heap.size + 1, 11, none⟩ = some (.slice (some ad) ti.codes.length e11) ∧ w'.cell? (ad.add (k * 6)) = some (.int .i64 f2) ∧ w'.cell? ⟨(ad.add (k * 6)).block, (ad.add (k * 6)).off + 1, none⟩ = some (.int .i64 n2) ∧ w'.cell? (ad.add (j * 6)) = some (.int .i64 f2) ∧ w'.cell? ⟨(ad.add (j * 6)).block, (ad.add (j * 6)).off + 1, none⟩ = some (.int .i64 n2))) (by kernel_rfl) (⟨hD.cell 0 rfl 11, kept hD.bel q0', kept hD.bel q1', kept hD.bel p0', kept hD.bel p1'⟩) (fun hHeld => ?_)
              (iterate 28 (first | refine rQ1 ?_ | refine rQ2 ?_); try simp only [pP])
              refine wpAnyH_done (by kernel_rfl) ?_ _
              clear hHeld
              go_wp2
              go_ret
              exact ⟨ret_bool E.out.symm, hD.bel⟩
            have HN := Lib.hid (show (ti.codes.take (j + 1)).any (fun q => sameC q ⟨f2, en, va, nu, ops, exs⟩) = false by rw [HSN.out, hno.out]; simp [sameC, g2])
            have b2 : (n2 == en) = false := by simp [g2]
            clear g2
            refine wp_region_held_drew (S := (fun (w' : World) => w'.cell? ⟨w.heap.size + 1, 11, none⟩ = some (.slice (some ad) ti.codes.length e11) ∧ w'.cell? (ad.add (k * 6)) = some (.int .i64 f2) ∧ w'.cell? ⟨(ad.add (k * 6)).block, (ad.add (k * 6)).off + 1, none⟩ = some (.int .i64 en) ∧ w'.cell? (ad.add (j * 6)) = some (.int .i64 f2) ∧ w'.cell? ⟨(ad.add (j * 6)).block, (ad.add (j * 6)).off + 1, none⟩ = some (.int .i64 n2))) (by kernel_rfl) (⟨hD.cell 0 rfl 11, kept hD.bel q0', kept hD.bel q1', kept hD.bel p0', kept hD.bel p1'⟩) (fun hHeld => ?_)
            (iterate 28 (first | refine rQ1 ?_ | refine rQ2 ?_); try simp only [pP])
            refine wpAnyH_done (by kernel_rfl) ?_ _
            clear hHeld
            go_wp2
            go_roundw
            case rel => exact ⟨j + 1, by omega, by go_num, HN, hD⟩
            case measure => simp [intOf]; omega
          have HN := Lib.hid (show (ti.codes.take (j + 1)).any (fun q => sameC q ⟨fn, en, va, nu, ops, exs⟩) = false by rw [HSN.out, hno.out]; simp [sameC, g1])
          have b1 : (f2 == fn) = false := by simp [g1]
          clear g1
          refine wp_region_held_drew (S := (fun (w' : World) => w'.cell? ⟨w.heap.size + 1, 11, none⟩ = some (.slice (some ad) ti.codes.length e11) ∧ w'.cell? (ad.add (k * 6)) = some (.int .i64 fn) ∧ w'.cell? ⟨(ad.add (k * 6)).block, (ad.add (k * 6)).off + 1, none⟩ = some (.int .i64 en) ∧ w'.cell? (ad.add (j * 6)) = some (.int .i64 f2) ∧ w'.cell? ⟨(ad.add (j * 6)).block, (ad.add (j * 6)).off + 1, none⟩ = some (.int .i64 n2))) (by kernel_rfl) (⟨hD.cell 0 rfl 11, kept hD.bel q0', kept hD.bel q1', kept hD.bel p0', kept hD.bel p1'⟩) (fun hHeld => ?_)
          (iterate 14 (first | refine rQ1 ?_ | refine rQ2 ?_); try simp only [pP])
          refine regS (fun _ _ _ d h => by cases d <;> exact h) [14, 15, 16, 17, 18, 19, 20, 21, 22, 23, 24, 25, 26] _ _ _ rfl (by kernel_rfl) (by assumption) ?_
          simp only [skipL, List.getElem?_cons_zero, List.getElem?_cons_succ, Option.bind_some, pP]
          (first | refine rQ1 ?_ | refine rQ2 ?_); (try simp only [pP])
          refine wpAnyH_done (by kernel_rfl) ?_ _
          clear hHeld
          go_wp2
          go_roundw
          case rel => exact ⟨j + 1, by omega, by go_num, HN, hD⟩
          case measure => simp [intOf]; omega
        obtain rfl : j = k := by omega
        have HN := Lib.hid (show (List.range (j + 1)).all (codeAtB l ti.codes) = true by rw [range_all, hb.out, HA2.out, hno.out]; rfl)
        go_wp2
        go_roundw
        case rel => exact ⟨j + 1, by omega, by go_num, HN, hS⟩
        case measure => simp [intOf]; omega
    obtain rfl : k = ti.codes.length := by omega
    have E6 := Lib.hid (E5.out.trans (show _ = ((List.range ti.fails.length).all (failAt l ti.fails) && decide (ti.guards = sumF ti.fails)) by unfold codesB; rw [hb.out, Bool.true_and]))
    clear E5 hb hlt hk
    go_wp2
    clear x_t x_m
    go_loopw [7, 8] (fun s i wr => ∃ k : Nat, k ≤ ti.fails.length ∧ s = .int .i64 (sumF (ti.fails.take k)) ∧ i = .int .i64 k ∧ Hid ((List.range k).all (failAt l ti.fails) = true) ∧ St w [Res.box (w.heap.size + 1) (.cells #[.slice A0 ti.vm.frames.length e0, .slice A1 ti.vm.heap.length e1, .int .i64 ti.vm.made, .slice A3 ti.vm.out.length e3, .int .i64 ti.vm.status, .int .i64 ti.vm.trap, .int .i64 ti.vm.value.k, .int .i64 ti.vm.value.n, .string ti.vm.value.s, .int .i64 ti.vm.steps, .slice A10 ti.sites.length e10, .slice A11 ti.codes.length e11, .slice A12 ti.fails.length e12, .int .i64 ti.guards, .int .i64 ti.entered] 72 (0, 0)), Res.box w.heap.size (.cells #[.slice A t.length c0, .slice B l.length d0] 36 (0, 0))] wr) (fun _ i _ => ti.fails.length - (intOf i).toNat)
    case atStart => exact ⟨0, by omega, rfl, rfl, Lib.hid rfl, hS⟩
    case round =>
      clear hS
      obtain ⟨k, hk, rfl, rfl, hb, hS⟩ := hrel
      have hsr := sum_rng k hk hb.out
      have x_t := hS.cell 0 rfl
      by_cases hlt : k < ti.fails.length
      · obtain ⟨f, hf⟩ := get_exU ti.fails k hlt
        obtain ⟨af, rfl, q0', q1', q2', q3'⟩ := kFail_at r12 k f hf
        have HA := Lib.hid (failAt_of (l := l) hf)
        have HSUM := Lib.hid (sumF_snoc hf)
        have HNO := Lib.hid (fun h : failAt l ti.fails k = false => E6.out.trans (by rw [range_no hlt h, Bool.false_and]))
        have k0 : (0 : Int) ≤ (k : Int) := by omega
        have k1 : (k : Int) < ti.fails.length := by omega
        obtain ⟨fn, pc, kind, count⟩ := f
        dsimp only at q0' q1' q2' q3' HSUM
        clear hf
        go_wp2
        clear x_t
        replace hS := hS.drew
        cases hfx : failB l ⟨fn, pc, kind, count⟩
        · have HF := Lib.hid hfx
          have E := Lib.hid (HNO.out (by rw [HA.out, hfx, Bool.false_and]))
          clear hfx
          refine wp_region_held_drew (S := (fun (w' : World) => w'.cell? ⟨w.heap.size, 0, none⟩ = some (.slice A t.length c0) ∧ w'.cell? ⟨w.heap.size, 1, none⟩ = some (.slice B l.length d0) ∧ w'.cell? ⟨w.heap.size + 1, 12, none⟩ = some (.slice (some af) ti.fails.length e12) ∧ w'.cell? (af.add (k * 4)) = some (.int .i64 fn) ∧ w'.cell? ⟨(af.add (k * 4)).block, (af.add (k * 4)).off + 1, none⟩ = some (.int .i64 pc) ∧ w'.cell? ⟨(af.add (k * 4)).block, (af.add (k * 4)).off + 2, none⟩ = some (.int .i64 kind) ∧ w'.cell? ⟨(af.add (k * 4)).block, (af.add (k * 4)).off + 3, none⟩ = some (.int .i64 count))) (by kernel_rfl) (⟨hS.cell 1 rfl 0, hS.cell 1 rfl 1, hS.cell 0 rfl 12, kept hS.bel q0', kept hS.bel q1', kept hS.bel q2', kept hS.bel q3'⟩) (fun hHeld => ?_)
          (iterate 6 (first | refine rQ1 ?_ | refine rQ2 ?_); try simp only [pP])
          refine regC 6 rfl (by kernel_rfl) (by rfl) (fun Kq hKq => ?_)
          go_simp
          (with_reducible refine (fail17 A B c0 d0 t l ⟨fn, pc, kind, count⟩ _ (h.below hS.bel) hm).mono ?_)
          rintro e w5 ⟨rfl, hb5⟩; rw [HF.out]; have hS5 := hS.step hb5; clear hb5
          try go_wp2_with fail
          refine hKq.out _ _ (⟨hS5.cell 1 rfl 0, hS5.cell 1 rfl 1, hS5.cell 0 rfl 12, kept hS5.bel q0', kept hS5.bel q1', kept hS5.bel q2', kept hS5.bel q3'⟩) (fun hHeld => ?_)
          clear hKq Kq
          (try simp only [pP])
          (first | refine rQ1 ?_ | refine rQ2 ?_); (try simp only [pP])
          refine wpAnyH_done (by kernel_rfl) ?_ _
          clear hHeld
          go_wp2
          go_ret
          exact ⟨ret_bool E.out.symm, hS5.bel⟩
        have HF := Lib.hid hfx
        have hcr : 1 ≤ count ∧ count ≤ 1000000 := by
          unfold failB at hfx
          split at hfx
          · cases hfx
          · rw [Bool.and_eq_true] at hfx
            exact btw_true.1 hfx.1
        have HA2 := Lib.hid (show failAt l ti.fails k = !((ti.fails.take k).any (fun q => sameP q ⟨fn, pc, kind, count⟩)) by rw [HA.out, hfx, Bool.true_and])
        clear hfx
        refine wp_region_held_drew (S := (fun (w' : World) => w'.cell? ⟨w.heap.size, 0, none⟩ = some (.slice A t.length c0) ∧ w'.cell? ⟨w.heap.size, 1, none⟩ = some (.slice B l.length d0) ∧ w'.cell? ⟨w.heap.size + 1, 12, none⟩ = some (.slice (some af) ti.fails.length e12) ∧ w'.cell? (af.add (k * 4)) = some (.int .i64 fn) ∧ w'.cell? ⟨(af.add (k * 4)).block, (af.add (k * 4)).off + 1, none⟩ = some (.int .i64 pc) ∧ w'.cell? ⟨(af.add (k * 4)).block, (af.add (k * 4)).off + 2, none⟩ = some (.int .i64 kind) ∧ w'.cell? ⟨(af.add (k * 4)).block, (af.add (k * 4)).off + 3, none⟩ = some (.int .i64 count))) (by kernel_rfl) (⟨hS.cell 1 rfl 0, hS.cell 1 rfl 1, hS.cell 0 rfl 12, kept hS.bel q0', kept hS.bel q1', kept hS.bel q2', kept hS.bel q3'⟩) (fun hHeld => ?_)
        (iterate 6 (first | refine rQ1 ?_ | refine rQ2 ?_); try simp only [pP])
        refine regC 6 rfl (by kernel_rfl) (by rfl) (fun Kq hKq => ?_)
        go_simp
        (with_reducible refine (fail17 A B c0 d0 t l ⟨fn, pc, kind, count⟩ _ (h.below hS.bel) hm).mono ?_)
        rintro e w5 ⟨rfl, hb5⟩; rw [HF.out]; have hS5 := hS.step hb5; clear hb5
        try go_wp2_with fail
        refine hKq.out _ _ (⟨hS5.cell 1 rfl 0, hS5.cell 1 rfl 1, hS5.cell 0 rfl 12, kept hS5.bel q0', kept hS5.bel q1', kept hS5.bel q2', kept hS5.bel q3'⟩) (fun hHeld => ?_)
        clear hKq Kq
        (try simp only [pP])
        (first | refine rQ1 ?_ | refine rQ2 ?_); (try simp only [pP])
        refine wpAnyH_done (by kernel_rfl) ?_ _
        clear hHeld hS
        have x_t := hS5.cell 0 rfl
        have x_c := kept hS5.bel q3'
        have eqs : IntKind.i64.wrap (sumF (ti.fails.take k) + count) = sumF (ti.fails.take k) + count := IntWalk.i64_in _ (by omega)
        go_wp2
        clear x_t x_c
        try rw [eqs]
        rw [← HSUM.out]
        go_loopw [9] (fun i wr => ∃ j : Nat, j ≤ k ∧ i = .int .i64 j ∧ Hid ((ti.fails.take j).any (fun q => sameP q ⟨fn, pc, kind, count⟩) = false) ∧ St w [Res.box (w.heap.size + 1) (.cells #[.slice A0 ti.vm.frames.length e0, .slice A1 ti.vm.heap.length e1, .int .i64 ti.vm.made, .slice A3 ti.vm.out.length e3, .int .i64 ti.vm.status, .int .i64 ti.vm.trap, .int .i64 ti.vm.value.k, .int .i64 ti.vm.value.n, .string ti.vm.value.s, .int .i64 ti.vm.steps, .slice A10 ti.sites.length e10, .slice A11 ti.codes.length e11, .slice (some af) ti.fails.length e12, .int .i64 ti.guards, .int .i64 ti.entered] 72 (0, 0)), Res.box w.heap.size (.cells #[.slice A t.length c0, .slice B l.length d0] 36 (0, 0))] wr) (fun i _ => k - (intOf i).toNat)
        case atStart => exact ⟨0, by omega, rfl, Lib.hid rfl, hS5⟩
        case round =>
          clear hS5
          obtain ⟨j, hj, rfl, hno, hS⟩ := hrel
          by_cases hjk : j < k
          · obtain ⟨y, hy⟩ := get_exU ti.fails j (by omega)
            obtain ⟨af2, e2, p0', p1', p2', p3'⟩ := kFail_at r12 j y hy
            cases e2
            have HSN := Lib.hid (any_snoc9 (fun q => sameP q ⟨fn, pc, kind, count⟩) ti.fails j y hy)
            have HDU := Lib.hid (fun hp => any_here (p := fun q => sameP q ⟨fn, pc, kind, count⟩) hjk hy hp)
            obtain ⟨f2, n2, v2, m2⟩ := y
            dsimp only at p0' p1'
            have j0 : (0 : Int) ≤ (j : Int) := by omega
            have j1 : (j : Int) < ti.fails.length := by omega
            have j2 : j < ti.fails.length := by omega
            have j3 : (j : Int) < k := by omega
            clear hy p2' p3'
            go_wp2
            have hD := hS.drew
            clear hS
            by_cases g1 : f2 = fn
            · subst g1
              by_cases g2 : n2 = pc
              · subst g2
                have E := Lib.hid (HNO.out (by rw [HA2.out, HDU.out (by simp [sameP])]; rfl))
                refine wp_region_held_drew (S := (fun (w' : World) => w'.cell? ⟨w.heap.size + 1, 12, none⟩ = some (.slice (some af) ti.fails.length e12) ∧ w'.cell? (af.add (k * 4)) = some (.int .i64 f2) ∧ w'.cell? ⟨(af.add (k * 4)).block, (af.add (k * 4)).off + 1, none⟩ = some (.int .i64 n2) ∧ w'.cell? (af.add (j * 4)) = some (.int .i64 f2) ∧ w'.cell? ⟨(af.add (j * 4)).block, (af.add (j * 4)).off + 1, none⟩ = some (.int .i64 n2))) (by kernel_rfl) (⟨hD.cell 0 rfl 12, kept hD.bel q0', kept hD.bel q1', kept hD.bel p0', kept hD.bel p1'⟩) (fun hHeld => ?_)
                (iterate 28 (first | refine rQ1 ?_ | refine rQ2 ?_); try simp only [pP])
                refine wpAnyH_done (by kernel_rfl) ?_ _
                clear hHeld
                go_wp2
                go_ret
                exact ⟨ret_bool E.out.symm, hD.bel⟩
              have HN := Lib.hid (show (ti.fails.take (j + 1)).any (fun q => sameP q ⟨f2, pc, kind, count⟩) = false by rw [HSN.out, hno.out]; simp [sameP, g2])
              have b2 : (n2 == pc) = false := by simp [g2]
              clear g2
              refine wp_region_held_drew (S := (fun (w' : World) => w'.cell? ⟨w.heap.size + 1, 12, none⟩ = some (.slice (some af) ti.fails.length e12) ∧ w'.cell? (af.add (k * 4)) = some (.int .i64 f2) ∧ w'.cell? ⟨(af.add (k * 4)).block, (af.add (k * 4)).off + 1, none⟩ = some (.int .i64 pc) ∧ w'.cell? (af.add (j * 4)) = some (.int .i64 f2) ∧ w'.cell? ⟨(af.add (j * 4)).block, (af.add (j * 4)).off + 1, none⟩ = some (.int .i64 n2))) (by kernel_rfl) (⟨hD.cell 0 rfl 12, kept hD.bel q0', kept hD.bel q1', kept hD.bel p0', kept hD.bel p1'⟩) (fun hHeld => ?_)
              (iterate 28 (first | refine rQ1 ?_ | refine rQ2 ?_); try simp only [pP])
              refine wpAnyH_done (by kernel_rfl) ?_ _
              clear hHeld
              go_wp2
              go_roundw
              case rel => exact ⟨j + 1, by omega, by go_num, HN, hD⟩
              case measure => simp [intOf]; omega
            have HN := Lib.hid (show (ti.fails.take (j + 1)).any (fun q => sameP q ⟨fn, pc, kind, count⟩) = false by rw [HSN.out, hno.out]; simp [sameP, g1])
            have b1 : (f2 == fn) = false := by simp [g1]
            clear g1
            refine wp_region_held_drew (S := (fun (w' : World) => w'.cell? ⟨w.heap.size + 1, 12, none⟩ = some (.slice (some af) ti.fails.length e12) ∧ w'.cell? (af.add (k * 4)) = some (.int .i64 fn) ∧ w'.cell? ⟨(af.add (k * 4)).block, (af.add (k * 4)).off + 1, none⟩ = some (.int .i64 pc) ∧ w'.cell? (af.add (j * 4)) = some (.int .i64 f2) ∧ w'.cell? ⟨(af.add (j * 4)).block, (af.add (j * 4)).off + 1, none⟩ = some (.int .i64 n2))) (by kernel_rfl) (⟨hD.cell 0 rfl 12, kept hD.bel q0', kept hD.bel q1', kept hD.bel p0', kept hD.bel p1'⟩) (fun hHeld => ?_)
            (iterate 14 (first | refine rQ1 ?_ | refine rQ2 ?_); try simp only [pP])
            refine regS (fun _ _ _ d h => by cases d <;> exact h) [14, 15, 16, 17, 18, 19, 20, 21, 22, 23, 24, 25, 26] _ _ _ rfl (by kernel_rfl) (by assumption) ?_
            simp only [skipL, List.getElem?_cons_zero, List.getElem?_cons_succ, Option.bind_some, pP]
            (first | refine rQ1 ?_ | refine rQ2 ?_); (try simp only [pP])
            refine wpAnyH_done (by kernel_rfl) ?_ _
            clear hHeld
            go_wp2
            go_roundw
            case rel => exact ⟨j + 1, by omega, by go_num, HN, hD⟩
            case measure => simp [intOf]; omega
          obtain rfl : j = k := by omega
          have HN := Lib.hid (show (List.range (j + 1)).all (failAt l ti.fails) = true by rw [range_all, hb.out, HA2.out, hno.out]; rfl)
          go_wp2
          go_roundw
          case rel => exact ⟨j + 1, by omega, rfl, by go_num, HN, hS⟩
          case measure => simp [intOf]; omega
      obtain rfl : k = ti.fails.length := by omega
      rw [List.take_length] at hsr ⊢
      have E := Lib.hid (E6.out.trans (show _ = (ti.guards == sumF ti.fails) by rw [hb.out, Bool.true_and, Bool.eq_iff_iff]; simp))
      clear E6 hb hlt hk
      go_wp2
      go_ret
      exact ⟨ret_bool E.out.symm, hS.bel⟩
set_option maxHeartbeats 8000000 in
set_option maxRecDepth 100000 in
theorem tierOk3 (A B A0 A1 A3 A10 A11 A12 : Option Addr) (c0 d0 e0 e1 e3 e10 e11 e12 : Nat) (t : List ByteArray) (l : List DFunc) (ti : DTier) (w : World) (h : HasMod A B t l w) (hc12 : ti.fails.length ≤ e12) (r0 : kFrame.Row w A0 ti.vm.frames.length ti.vm.frames) (r1 : kRec.Row w A1 ti.vm.heap.length ti.vm.heap) (r3 : Knd.str.Row w A3 ti.vm.out.length ti.vm.out) (r10 : kSite.Row w A10 ti.sites.length ti.sites) (r11 : kFast.Row w A11 ti.codes.length ti.codes) (r12 : kFail.Row w A12 ti.fails.length ti.fails) (hM : MTier ti) (hms : msTier ti ≤ 1048576) {r : Bool} (hr : tierOkB t l ti = r) :
    Calls Tryz.prog 25 #[.agg #[.slice A t.length c0, .slice B l.length d0], .agg #[.slice A0 ti.vm.frames.length e0, .slice A1 ti.vm.heap.length e1, .int .i64 ti.vm.made, .slice A3 ti.vm.out.length e3, .int .i64 ti.vm.status, .int .i64 ti.vm.trap, .int .i64 ti.vm.value.k, .int .i64 ti.vm.value.n, .string ti.vm.value.s, .int .i64 ti.vm.steps, .slice A10 ti.sites.length e10, .slice A11 ti.codes.length e11, .slice A12 ti.fails.length e12, .int .i64 ti.guards, .int .i64 ti.entered]] w fun e w' => e = .returned (.bool r) ∧ Below w.heap.size w w' := by
  subst hr
  have hS := ((St.start w).made (.cells #[.slice A t.length c0, .slice B l.length d0] 36 (0, 0))).madeAt (.cells #[.slice A0 ti.vm.frames.length e0, .slice A1 ti.vm.heap.length e1, .int .i64 ti.vm.made, .slice A3 ti.vm.out.length e3, .int .i64 ti.vm.status, .int .i64 ti.vm.trap, .int .i64 ti.vm.value.k, .int .i64 ti.vm.value.n, .string ti.vm.value.s, .int .i64 ti.vm.steps, .slice A10 ti.sites.length e10, .slice A11 ti.codes.length e11, .slice A12 ti.fails.length e12, .int .i64 ti.guards, .int .i64 ti.entered] 72 (0, 0)) (w.heap.size + 1) (by simp)
  cases hg : isGoodB t l
  · have E := Lib.hid (show tierOkB t l ti = false by unfold tierOkB; rw [hg]; rfl)
    have HG := Lib.hid hg
    clear hg
    go_enter Tryz.func25, Tryz.ntmps25
    go_wp2_with fail
    refine (good03 A B c0 d0 t l _ (h.below hS.bel) HG.out).mono ?_
    rintro e w1 ⟨rfl, hb⟩
    go_wp2
    go_ret
    exact ⟨ret_bool E.out.symm, (hS.step hb).bel⟩
  · have E := Lib.hid (show tierOkB t l ti = tierB l ti by unfold tierOkB; rw [hg]; rfl)
    have HG := Lib.hid hg
    clear hg
    go_enter Tryz.func25, Tryz.ntmps25
    go_wp2_with fail
    refine (good03 A B c0 d0 t l _ (h.below hS.bel) HG.out).mono ?_
    rintro e w1 ⟨rfl, hb⟩
    replace hS := hS.step hb
    have x_t := hS.cell 0 rfl
    have x_m := hS.cell 1 rfl
    go_wp2_with fail
    refine (ok17 A B A0 A1 A3 A10 A11 A12 c0 d0 e0 e1 e3 e10 e11 e12 t l ti _ (h.below hS.bel) HG.out hc12 (r0.below hS.bel) (r1.below hS.bel) (r3.below hS.bel) (r10.below hS.bel) (r11.below hS.bel) (r12.below hS.bel) hM hms).mono ?_
    rintro e w2 ⟨rfl, hb2⟩
    go_wp2
    go_ret
    exact ⟨ret_bool E.out.symm, (hS.step hb2).bel⟩
end Go.Proofs.YthinhlcfpaaldaaGreat.Dat
