/- Whether a tier is ok, in the program. -/
import Derived.Test.YthinhlcfpaaldaaGreatTiF
import Derived.Test.YthinhlcfpaaldaaGreatFlO
import Derived.Test.YthinhlcfpaaldaaGreatVmO
namespace Go.Proofs.YthinhlcfpaaldaaGreat.Dat
open Go Go.RowKit Go.Proofs.YthinhlcfpaaldaaGreat.Mem
set_option linter.unusedVariables false
set_option linter.unusedSimpArgs false
theorem ms_code {ti : DTier} {x : DFast} (h : msTier ti ≤ 1048576) (hx : x ∈ ti.codes) : msFast x ≤ 1048576 := by
  have e : msTier ti = msVm ti.vm + ti.sites.length + (ti.codes.length + (ti.codes.map msFast).sum) + ti.fails.length := rfl
  have := mem_sum msFast ti.codes x hx
  omega
def tailB (l : List DFunc) (t : DTier) : Bool := decide (t.codes.length ≤ 8) && (vmB l t.vm && (profB l t.sites && (failsB l t.fails t.guards && btw t.entered 0 1000000000)))
theorem tier_eq (l : List DFunc) (t : DTier) : tierB l t = (codesB l t.codes && tailB l t) := rfl
set_option maxHeartbeats 16000000 in
set_option maxRecDepth 100000 in
theorem tierI (A B D A0 A1 A3 A10 A11 A12 : Option Addr) (c0 d0 eh e0 e1 e3 e10 e11 e12 : Nat) (t : List ByteArray) (l : List DFunc) (ti : DTier) (w : World) (h : HasMod A B t l w) (hgd : isGoodB t l = true) (hD : kHgh.Row w D l.length (highsL l)) (hc12 : ti.fails.length ≤ e12) (r0 : kFrame.Row w A0 ti.vm.frames.length ti.vm.frames) (r1 : kRec.Row w A1 ti.vm.heap.length ti.vm.heap) (r3 : Knd.str.Row w A3 ti.vm.out.length ti.vm.out) (r10 : kSite.Row w A10 ti.sites.length ti.sites) (r11 : kFast.Row w A11 ti.codes.length ti.codes) (r12 : kFail.Row w A12 ti.fails.length ti.fails) (hM : MTier ti) (hms : msTier ti ≤ 1048576) :
    Calls Tryz.prog 82 #[.agg #[.slice A t.length c0, .slice B l.length d0], .slice D l.length eh, .agg #[.slice A0 ti.vm.frames.length e0, .slice A1 ti.vm.heap.length e1, .int .i64 ti.vm.made, .slice A3 ti.vm.out.length e3, .int .i64 ti.vm.status, .int .i64 ti.vm.trap, .int .i64 ti.vm.value.k, .int .i64 ti.vm.value.n, .string ti.vm.value.s, .int .i64 ti.vm.steps, .slice A10 ti.sites.length e10, .slice A11 ti.codes.length e11, .slice A12 ti.fails.length e12, .int .i64 ti.guards, .int .i64 ti.entered]] w fun e w' => e = .returned (.bool (tierB l ti)) ∧ Below w.heap.size w w' := by
  have hfit := modFit (isGood_mod hgd)
  have hm := hfit.n12
  have hnc : ti.codes.length ≤ 1048576 := hM.2.2.1.1
  have hnf : ti.fails.length ≤ 1048576 := hM.2.2.2
  have hns : ti.sites.length ≤ 1048576 := hM.2.1
  have hS := ((St.start w).made (.cells #[.slice A t.length c0, .slice B l.length d0] 36 (0, 0))).madeAt (.cells #[.slice A0 ti.vm.frames.length e0, .slice A1 ti.vm.heap.length e1, .int .i64 ti.vm.made, .slice A3 ti.vm.out.length e3, .int .i64 ti.vm.status, .int .i64 ti.vm.trap, .int .i64 ti.vm.value.k, .int .i64 ti.vm.value.n, .string ti.vm.value.s, .int .i64 ti.vm.steps, .slice A10 ti.sites.length e10, .slice A11 ti.codes.length e11, .slice A12 ti.fails.length e12, .int .i64 ti.guards, .int .i64 ti.entered] 72 (0, 0)) (w.heap.size + 1) (by simp)
  go_enter Tryz.func82, Tryz.ntmps82
  go_wp2
  go_loopw [12] (fun i wr => ∃ k : Nat, k ≤ ti.codes.length ∧ i = .int .i64 k ∧ Hid ((List.range k).all (codeAtB l ti.codes) = true) ∧ St w [Res.box (w.heap.size + 1) (.cells #[.slice A0 ti.vm.frames.length e0, .slice A1 ti.vm.heap.length e1, .int .i64 ti.vm.made, .slice A3 ti.vm.out.length e3, .int .i64 ti.vm.status, .int .i64 ti.vm.trap, .int .i64 ti.vm.value.k, .int .i64 ti.vm.value.n, .string ti.vm.value.s, .int .i64 ti.vm.steps, .slice A10 ti.sites.length e10, .slice A11 ti.codes.length e11, .slice A12 ti.fails.length e12, .int .i64 ti.guards, .int .i64 ti.entered] 72 (0, 0)), Res.box w.heap.size (.cells #[.slice A t.length c0, .slice B l.length d0] 36 (0, 0))] wr) (fun i _ => ti.codes.length - (intOf i).toNat)
  case atStart => exact ⟨0, by omega, rfl, Lib.hid rfl, hS⟩
  case round =>
    clear hS
    obtain ⟨k, hk, rfl, hb, hS⟩ := hrel
    have x_t := hS.cell 0 rfl
    have x_m := hS.cell 1 rfl
    by_cases hlt : k < ti.codes.length
    · obtain ⟨x, hx⟩ := get_exU ti.codes k hlt
      have hmx := ms_code hms (List.mem_of_getElem? hx)
      obtain ⟨ad, A4, A5, c4, c5, rfl, q0', q1', q2', q3', q4', q5', hl4, hr4, hl5, hr5⟩ := kFast_at r11 k x hx
      have HA := Lib.hid (codeAt_of (l := l) hx)
      have HNO := Lib.hid (fun h : codeAtB l ti.codes k = false => show tierB l ti = false by rw [tier_eq]; unfold codesB; rw [range_no hlt h, Bool.false_and])
      have HX := Lib.hid hx
      have q0 := kept hS.bel q0'
      have q1 := kept hS.bel q1'
      have q2 := kept hS.bel q2'
      have q3 := kept hS.bel q3'
      have q4 := kept hS.bel q4'
      have q5 := kept hS.bel q5'
      obtain ⟨g8, hg8⟩ : ∃ g8, wr.heap.size = g8 := ⟨_, rfl⟩
      have hT := hS.madeAt (.cells #[.int .i64 x.fn, .int .i64 x.entry, .int .i64 x.vals, .int .i64 x.nums, .slice A4 x.ops.length c4, .slice A5 x.exits.length c5] 41 (0, 0)) g8 hg8
      clear q0' q1' q2' q3' q4' q5' hx
      go_upto_region 4 with fail
      clear x_t x_m q0 q1 q2 q3 q4 q5 hS hg8
      have x_f := hT.cell 0 rfl
      have x_t := hT.cell 1 rfl
      have x_m := hT.cell 2 rfl
      have CI : ∀ W, Below w.heap.size w W → Calls Tryz.prog 133 #[.agg #[.slice A t.length c0, .slice B l.length d0], .slice D l.length eh, .agg #[.int .i64 x.fn, .int .i64 x.entry, .int .i64 x.vals, .int .i64 x.nums, .slice A4 x.ops.length c4, .slice A5 x.exits.length c5]] W fun e w' => e = .returned (.bool (fastB l x)) ∧ Below W.heap.size W w' := fun W hW => fastI A B A4 A5 D c0 d0 c4 c5 eh t l x W (h.below hW) hgd (hD.below hW) (hr4.below hW) (hr5.below hW) hmx
      cases hfx : fastB l x
      · have E := Lib.hid (HNO.out (by rw [HA.out, hfx, Bool.false_and]))
        have HF := Lib.hid hfx
        clear hfx
        go_wp2_with fail
        refine (CI _ hT.bel).mono ?_
        rintro e w5 ⟨rfl, hb5⟩
        rw [HF.out]
        replace hT := hT.step hb5
        go_wp2
        go_ret
        exact ⟨ret_bool E.out.symm, hT.bel⟩
      have HF := Lib.hid hfx
      have HA2 := Lib.hid (show codeAtB l ti.codes k = !((ti.codes.take k).any (fun q => sameC q x)) by rw [HA.out, hfx, Bool.true_and])
      clear hfx
      go_wp2_with fail
      refine (CI _ hT.bel).mono ?_
      rintro e w5 ⟨rfl, hb5⟩
      rw [HF.out]
      replace hT := hT.step hb5
      clear x_f x_t x_m hb5 CI
      have x_f := hT.cell 0 rfl
      have x_t := hT.cell 1 rfl
      go_wp2_with fail
      refine (codeAtI (some ad) e11 ti.codes x _ (r11.below hT.bel) hnc).mono ?_
      rintro e w6 ⟨r, rfl, hfi, hb6⟩
      have HE := Lib.hid ((first_at hfi HX.out (show sameC x x = true by unfold sameC; simp)).trans HA2.out.symm)
      replace hT := hT.step hb6
      clear x_f x_t hb6 hfi
      by_cases hrk : r = (k : Int)
      · have b1 : (r != (k : Int)) = false := by simp [hrk]
        have HN := Lib.hid (show (List.range (k + 1)).all (codeAtB l ti.codes) = true by rw [range_all, hb.out, ← HE.out, decide_eq_true hrk]; rfl)
        clear hrk
        go_wp2
        go_roundw
        case rel => exact ⟨k + 1, by omega, by go_num, HN, hT.drop⟩
        case measure => simp [intOf]; omega
      · have b1 : (r != (k : Int)) = true := by simp [hrk]
        have E := Lib.hid (HNO.out (by rw [← HE.out, decide_eq_false hrk]))
        clear hrk
        go_wp2
        go_ret
        exact ⟨ret_bool E.out.symm, hT.bel⟩
    obtain rfl : k = ti.codes.length := by omega
    have E0 := Lib.hid (show tierB l ti = tailB l ti by rw [tier_eq]; unfold codesB; rw [hb.out, Bool.true_and])
    clear hb hlt hk
    by_cases h8 : ti.codes.length ≤ 8
    rotate_left
    · have E := Lib.hid (E0.out.trans (by unfold tailB; rw [decide_eq_false h8, Bool.false_and]))
      have h9 : 8 < ti.codes.length := by omega
      clear h8
      go_wp2
      go_ret
      exact ⟨ret_bool E.out.symm, hS.bel⟩
    have E1 := Lib.hid (E0.out.trans (by unfold tailB; rw [decide_eq_true h8, Bool.true_and]))
    cases hv : vmB l ti.vm
    · have E := Lib.hid (E1.out.trans (by rw [hv, Bool.false_and]))
      have HV := Lib.hid hv
      clear hv
      go_wp2_with fail
      refine (vmI A B D A0 A1 A3 c0 d0 eh e0 e1 e3 t l ti.vm _ (h.below hS.bel) hfit (hD.below hS.bel) (r0.below hS.bel) (r1.below hS.bel) (r3.below hS.bel) hM.1).mono ?_
      rintro e w5 ⟨rfl, hb5⟩
      rw [HV.out]
      replace hS := hS.step hb5
      clear x_t x_m hb5
      have x_t := hS.cell 0 rfl
      have x_m := hS.cell 1 rfl
      go_wp2
      go_ret
      exact ⟨ret_bool E.out.symm, hS.bel⟩
    have HV := Lib.hid hv
    have E2 := Lib.hid (E1.out.trans (by rw [hv, Bool.true_and]))
    cases hp : profB l ti.sites
    · have E := Lib.hid (E2.out.trans (by rw [hp, Bool.false_and]))
      have HP := Lib.hid hp
      clear hp hv
      go_wp2_with fail
      refine (vmI A B D A0 A1 A3 c0 d0 eh e0 e1 e3 t l ti.vm _ (h.below hS.bel) hfit (hD.below hS.bel) (r0.below hS.bel) (r1.below hS.bel) (r3.below hS.bel) hM.1).mono ?_
      rintro e w5 ⟨rfl, hb5⟩
      rw [HV.out]
      replace hS := hS.step hb5
      clear x_t x_m hb5
      have x_t := hS.cell 0 rfl
      have x_m := hS.cell 1 rfl
      go_wp2_with fail
      refine (profI A B A10 c0 d0 e10 t l ti.sites _ (h.below hS.bel) (r10.below hS.bel) hns).mono ?_
      rintro e w5 ⟨rfl, hb5⟩
      rw [HP.out]
      replace hS := hS.step hb5
      clear x_t x_m hb5
      have x_t := hS.cell 0 rfl
      have x_m := hS.cell 1 rfl
      go_wp2
      go_ret
      exact ⟨ret_bool E.out.symm, hS.bel⟩
    have HP := Lib.hid hp
    have E3 := Lib.hid (E2.out.trans (by rw [hp, Bool.true_and]))
    cases hf : failsB l ti.fails ti.guards
    · have E := Lib.hid (E3.out.trans (by rw [hf, Bool.false_and]))
      have HF := Lib.hid hf
      clear hf hp hv
      go_wp2_with fail
      refine (vmI A B D A0 A1 A3 c0 d0 eh e0 e1 e3 t l ti.vm _ (h.below hS.bel) hfit (hD.below hS.bel) (r0.below hS.bel) (r1.below hS.bel) (r3.below hS.bel) hM.1).mono ?_
      rintro e w5 ⟨rfl, hb5⟩
      rw [HV.out]
      replace hS := hS.step hb5
      clear x_t x_m hb5
      have x_t := hS.cell 0 rfl
      have x_m := hS.cell 1 rfl
      go_wp2_with fail
      refine (profI A B A10 c0 d0 e10 t l ti.sites _ (h.below hS.bel) (r10.below hS.bel) hns).mono ?_
      rintro e w5 ⟨rfl, hb5⟩
      rw [HP.out]
      replace hS := hS.step hb5
      clear x_t x_m hb5
      have x_t := hS.cell 0 rfl
      have x_m := hS.cell 1 rfl
      go_wp2_with fail
      refine (failsI A B A0 A1 A3 A10 A11 A12 c0 d0 e0 e1 e3 e10 e11 e12 t l ti _ (h.below hS.bel) hm hc12 (r12.below hS.bel) hnf).mono ?_
      rintro e w5 ⟨rfl, hb5⟩
      rw [HF.out]
      replace hS := hS.step hb5
      clear x_t x_m hb5
      have x_t := hS.cell 0 rfl
      have x_m := hS.cell 1 rfl
      go_wp2
      go_ret
      exact ⟨ret_bool E.out.symm, hS.bel⟩
    have HF := Lib.hid hf
    have E := Lib.hid (E3.out.trans (by rw [hf, Bool.true_and]))
    clear hf hp hv
    go_wp2_with fail
    refine (vmI A B D A0 A1 A3 c0 d0 eh e0 e1 e3 t l ti.vm _ (h.below hS.bel) hfit (hD.below hS.bel) (r0.below hS.bel) (r1.below hS.bel) (r3.below hS.bel) hM.1).mono ?_
    rintro e w5 ⟨rfl, hb5⟩
    rw [HV.out]
    replace hS := hS.step hb5
    clear x_t x_m hb5
    have x_t := hS.cell 0 rfl
    have x_m := hS.cell 1 rfl
    go_wp2_with fail
    refine (profI A B A10 c0 d0 e10 t l ti.sites _ (h.below hS.bel) (r10.below hS.bel) hns).mono ?_
    rintro e w5 ⟨rfl, hb5⟩
    rw [HP.out]
    replace hS := hS.step hb5
    clear x_t x_m hb5
    have x_t := hS.cell 0 rfl
    have x_m := hS.cell 1 rfl
    go_wp2_with fail
    refine (failsI A B A0 A1 A3 A10 A11 A12 c0 d0 e0 e1 e3 e10 e11 e12 t l ti _ (h.below hS.bel) hm hc12 (r12.below hS.bel) hnf).mono ?_
    rintro e w5 ⟨rfl, hb5⟩
    rw [HF.out]
    replace hS := hS.step hb5
    clear x_t x_m hb5
    have x_t := hS.cell 0 rfl
    have x_m := hS.cell 1 rfl
    go_wp2_with (go_at_call 153; (with_reducible refine (inRange (r := btw ti.entered 0 1000000000) _ rfl).mono ?_); rintro e w' ⟨rfl, rfl⟩)
    all_goals (go_ret; exact ⟨ret_bool E.out.symm, hS.bel⟩)
set_option maxHeartbeats 8000000 in
set_option maxRecDepth 100000 in
theorem tierOkI (A B A0 A1 A3 A10 A11 A12 : Option Addr) (c0 d0 e0 e1 e3 e10 e11 e12 : Nat) (t : List ByteArray) (l : List DFunc) (ti : DTier) (w : World) (h : HasMod A B t l w) (hc12 : ti.fails.length ≤ e12) (r0 : kFrame.Row w A0 ti.vm.frames.length ti.vm.frames) (r1 : kRec.Row w A1 ti.vm.heap.length ti.vm.heap) (r3 : Knd.str.Row w A3 ti.vm.out.length ti.vm.out) (r10 : kSite.Row w A10 ti.sites.length ti.sites) (r11 : kFast.Row w A11 ti.codes.length ti.codes) (r12 : kFail.Row w A12 ti.fails.length ti.fails) (hM : MTier ti) (hms : msTier ti ≤ 1048576) {r : Bool} (hr : tierOkB t l ti = r) :
    Calls Tryz.prog 27 #[.agg #[.slice A t.length c0, .slice B l.length d0], .agg #[.slice A0 ti.vm.frames.length e0, .slice A1 ti.vm.heap.length e1, .int .i64 ti.vm.made, .slice A3 ti.vm.out.length e3, .int .i64 ti.vm.status, .int .i64 ti.vm.trap, .int .i64 ti.vm.value.k, .int .i64 ti.vm.value.n, .string ti.vm.value.s, .int .i64 ti.vm.steps, .slice A10 ti.sites.length e10, .slice A11 ti.codes.length e11, .slice A12 ti.fails.length e12, .int .i64 ti.guards, .int .i64 ti.entered]] w fun e w' => e = .returned (.bool r) ∧ Below w.heap.size w w' := by
  subst hr
  have hS := (((St.start w).made (.cells #[.slice A t.length c0, .slice B l.length d0] 36 (0, 0))).madeAt (.cells #[.slice A0 ti.vm.frames.length e0, .slice A1 ti.vm.heap.length e1, .int .i64 ti.vm.made, .slice A3 ti.vm.out.length e3, .int .i64 ti.vm.status, .int .i64 ti.vm.trap, .int .i64 ti.vm.value.k, .int .i64 ti.vm.value.n, .string ti.vm.value.s, .int .i64 ti.vm.steps, .slice A10 ti.sites.length e10, .slice A11 ti.codes.length e11, .slice A12 ti.fails.length e12, .int .i64 ti.guards, .int .i64 ti.entered] 72 (0, 0)) (w.heap.size + 1) (by simp)).drew
  cases hg : isGoodB t l
  · have E := Lib.hid (show tierOkB t l ti = false by unfold tierOkB; rw [hg]; rfl)
    have HG := Lib.hid hg
    clear hg
    go_enter Tryz.func27, Tryz.ntmps27
    go_wp2
    refine wp_region_held_drew (S := (fun (w' : World) => w'.cell? ⟨w.heap.size, 0, none⟩ = some (.slice A t.length c0) ∧ w'.cell? ⟨w.heap.size, 1, none⟩ = some (.slice B l.length d0) ∧ w'.cell? ⟨w.heap.size + 1, 0, none⟩ = some (.slice A0 ti.vm.frames.length e0) ∧ w'.cell? ⟨w.heap.size + 1, 1, none⟩ = some (.slice A1 ti.vm.heap.length e1) ∧ w'.cell? ⟨w.heap.size + 1, 2, none⟩ = some (.int .i64 ti.vm.made) ∧ w'.cell? ⟨w.heap.size + 1, 3, none⟩ = some (.slice A3 ti.vm.out.length e3) ∧ w'.cell? ⟨w.heap.size + 1, 4, none⟩ = some (.int .i64 ti.vm.status) ∧ w'.cell? ⟨w.heap.size + 1, 5, none⟩ = some (.int .i64 ti.vm.trap) ∧ w'.cell? ⟨w.heap.size + 1, 6, none⟩ = some (.int .i64 ti.vm.value.k) ∧ w'.cell? ⟨w.heap.size + 1, 7, none⟩ = some (.int .i64 ti.vm.value.n) ∧ w'.cell? ⟨w.heap.size + 1, 8, none⟩ = some (.string ti.vm.value.s) ∧ w'.cell? ⟨w.heap.size + 1, 9, none⟩ = some (.int .i64 ti.vm.steps) ∧ w'.cell? ⟨w.heap.size + 1, 10, none⟩ = some (.slice A10 ti.sites.length e10) ∧ w'.cell? ⟨w.heap.size + 1, 11, none⟩ = some (.slice A11 ti.codes.length e11) ∧ w'.cell? ⟨w.heap.size + 1, 12, none⟩ = some (.slice A12 ti.fails.length e12) ∧ w'.cell? ⟨w.heap.size + 1, 13, none⟩ = some (.int .i64 ti.guards) ∧ w'.cell? ⟨w.heap.size + 1, 14, none⟩ = some (.int .i64 ti.entered))) (by kernel_rfl) (⟨hS.cell 1 rfl 0, hS.cell 1 rfl 1, hS.cell 0 rfl 0, hS.cell 0 rfl 1, hS.cell 0 rfl 2, hS.cell 0 rfl 3, hS.cell 0 rfl 4, hS.cell 0 rfl 5, hS.cell 0 rfl 6, hS.cell 0 rfl 7, hS.cell 0 rfl 8, hS.cell 0 rfl 9, hS.cell 0 rfl 10, hS.cell 0 rfl 11, hS.cell 0 rfl 12, hS.cell 0 rfl 13, hS.cell 0 rfl 14⟩) (fun hHeld => ?_)
    (first | refine rQ1 ?_ | refine rQ2 ?_); (try simp only [pP])
    refine regC 1 rfl (by kernel_rfl) (by rfl) (fun Kq hKq => ?_)
    go_simp
    (with_reducible refine (isGoodI A B c0 d0 t l _ (h.below hS.bel) HG.out).mono ?_)
    rintro e w1 ⟨rfl, hb⟩; have hS1 := hS.step hb; clear hb
    try go_wp2_with fail
    refine hKq.out _ _ (⟨hS1.cell 1 rfl 0, hS1.cell 1 rfl 1, hS1.cell 0 rfl 0, hS1.cell 0 rfl 1, hS1.cell 0 rfl 2, hS1.cell 0 rfl 3, hS1.cell 0 rfl 4, hS1.cell 0 rfl 5, hS1.cell 0 rfl 6, hS1.cell 0 rfl 7, hS1.cell 0 rfl 8, hS1.cell 0 rfl 9, hS1.cell 0 rfl 10, hS1.cell 0 rfl 11, hS1.cell 0 rfl 12, hS1.cell 0 rfl 13, hS1.cell 0 rfl 14⟩) (fun hHeld => ?_)
    clear hKq Kq
    (try simp only [pP])
    (first | refine rQ1 ?_ | refine rQ2 ?_); (try simp only [pP])
    refine regS (fun _ _ _ d h => by cases d <;> exact h) [3, 4, 5, 6, 7] _ _ _ rfl (by kernel_rfl) (by assumption) ?_
    simp only [skipL, List.getElem?_cons_zero, List.getElem?_cons_succ, Option.bind_some, pP]
    (iterate 2 (first | refine rQ1 ?_ | refine rQ2 ?_); try simp only [pP])
    refine wpAnyH_done (by kernel_rfl) ?_ _
    clear hHeld
    go_wp2
    go_ret
    exact ⟨ret_bool E.out.symm, hS1.bel⟩
  · have E := Lib.hid (show tierOkB t l ti = tierB l ti by unfold tierOkB; rw [hg]; rfl)
    have hfit := Lib.hid (modFit (isGood_mod hg))
    have HG := Lib.hid hg
    clear hg
    go_enter Tryz.func27, Tryz.ntmps27
    go_wp2
    refine wp_region_held_drew (S := (fun (w' : World) => w'.cell? ⟨w.heap.size, 0, none⟩ = some (.slice A t.length c0) ∧ w'.cell? ⟨w.heap.size, 1, none⟩ = some (.slice B l.length d0) ∧ w'.cell? ⟨w.heap.size + 1, 0, none⟩ = some (.slice A0 ti.vm.frames.length e0) ∧ w'.cell? ⟨w.heap.size + 1, 1, none⟩ = some (.slice A1 ti.vm.heap.length e1) ∧ w'.cell? ⟨w.heap.size + 1, 2, none⟩ = some (.int .i64 ti.vm.made) ∧ w'.cell? ⟨w.heap.size + 1, 3, none⟩ = some (.slice A3 ti.vm.out.length e3) ∧ w'.cell? ⟨w.heap.size + 1, 4, none⟩ = some (.int .i64 ti.vm.status) ∧ w'.cell? ⟨w.heap.size + 1, 5, none⟩ = some (.int .i64 ti.vm.trap) ∧ w'.cell? ⟨w.heap.size + 1, 6, none⟩ = some (.int .i64 ti.vm.value.k) ∧ w'.cell? ⟨w.heap.size + 1, 7, none⟩ = some (.int .i64 ti.vm.value.n) ∧ w'.cell? ⟨w.heap.size + 1, 8, none⟩ = some (.string ti.vm.value.s) ∧ w'.cell? ⟨w.heap.size + 1, 9, none⟩ = some (.int .i64 ti.vm.steps) ∧ w'.cell? ⟨w.heap.size + 1, 10, none⟩ = some (.slice A10 ti.sites.length e10) ∧ w'.cell? ⟨w.heap.size + 1, 11, none⟩ = some (.slice A11 ti.codes.length e11) ∧ w'.cell? ⟨w.heap.size + 1, 12, none⟩ = some (.slice A12 ti.fails.length e12) ∧ w'.cell? ⟨w.heap.size + 1, 13, none⟩ = some (.int .i64 ti.guards) ∧ w'.cell? ⟨w.heap.size + 1, 14, none⟩ = some (.int .i64 ti.entered))) (by kernel_rfl) (⟨hS.cell 1 rfl 0, hS.cell 1 rfl 1, hS.cell 0 rfl 0, hS.cell 0 rfl 1, hS.cell 0 rfl 2, hS.cell 0 rfl 3, hS.cell 0 rfl 4, hS.cell 0 rfl 5, hS.cell 0 rfl 6, hS.cell 0 rfl 7, hS.cell 0 rfl 8, hS.cell 0 rfl 9, hS.cell 0 rfl 10, hS.cell 0 rfl 11, hS.cell 0 rfl 12, hS.cell 0 rfl 13, hS.cell 0 rfl 14⟩) (fun hHeld => ?_)
    (first | refine rQ1 ?_ | refine rQ2 ?_); (try simp only [pP])
    refine regC 1 rfl (by kernel_rfl) (by rfl) (fun Kq hKq => ?_)
    go_simp
    (with_reducible refine (isGoodI A B c0 d0 t l _ (h.below hS.bel) HG.out).mono ?_)
    rintro e w1 ⟨rfl, hb⟩; have hS1 := hS.step hb; clear hb
    try go_wp2_with fail
    refine hKq.out _ _ (⟨hS1.cell 1 rfl 0, hS1.cell 1 rfl 1, hS1.cell 0 rfl 0, hS1.cell 0 rfl 1, hS1.cell 0 rfl 2, hS1.cell 0 rfl 3, hS1.cell 0 rfl 4, hS1.cell 0 rfl 5, hS1.cell 0 rfl 6, hS1.cell 0 rfl 7, hS1.cell 0 rfl 8, hS1.cell 0 rfl 9, hS1.cell 0 rfl 10, hS1.cell 0 rfl 11, hS1.cell 0 rfl 12, hS1.cell 0 rfl 13, hS1.cell 0 rfl 14⟩) (fun hHeld => ?_)
    clear hKq Kq
    (try simp only [pP])
    (iterate 3 (first | refine rQ1 ?_ | refine rQ2 ?_); try simp only [pP]); (first | refine rW 6 ?_ | refine rV 6 ?_); (try simp only [pP])
    refine regC 5 rfl (by kernel_rfl) (by rfl) (fun Kq hKq => ?_)
    go_simp
    (with_reducible refine (heightsI A B c0 d0 t l _ (h.below hS1.bel).hr hfit.out).mono ?_)
    intro e w2 hn; obtain ⟨v2, F2, rfl, hS2⟩ := hS1.newRow hn; obtain ⟨D, eh, rfl, _, hD⟩ := hS2.row 0 rfl; rw [highsL_len] at hD; clear hn
    try go_wp2_with fail
    refine hKq.out _ _ (⟨hS2.cell 2 rfl 0, hS2.cell 2 rfl 1, hS2.cell 1 rfl 0, hS2.cell 1 rfl 1, hS2.cell 1 rfl 2, hS2.cell 1 rfl 3, hS2.cell 1 rfl 4, hS2.cell 1 rfl 5, hS2.cell 1 rfl 6, hS2.cell 1 rfl 7, hS2.cell 1 rfl 8, hS2.cell 1 rfl 9, hS2.cell 1 rfl 10, hS2.cell 1 rfl 11, hS2.cell 1 rfl 12, hS2.cell 1 rfl 13, hS2.cell 1 rfl 14⟩) (fun hHeld => ?_)
    clear hKq Kq
    (try simp only [pP])
    rw [highsL_len]
    refine regC 7 rfl (by kernel_rfl) (by rfl) (fun Kq hKq => ?_)
    go_simp
    (with_reducible refine (tierI A B D A0 A1 A3 A10 A11 A12 c0 d0 eh e0 e1 e3 e10 e11 e12 t l ti _ (h.below hS2.bel) HG.out hD hc12 (r0.below hS2.bel) (r1.below hS2.bel) (r3.below hS2.bel) (r10.below hS2.bel) (r11.below hS2.bel) (r12.below hS2.bel) hM hms).mono ?_)
    rintro e w3 ⟨rfl, hb⟩; have hS3 := hS2.step hb; clear hb
    try go_wp2_with fail
    refine hKq.out _ _ (⟨hS3.cell 2 rfl 0, hS3.cell 2 rfl 1, hS3.cell 1 rfl 0, hS3.cell 1 rfl 1, hS3.cell 1 rfl 2, hS3.cell 1 rfl 3, hS3.cell 1 rfl 4, hS3.cell 1 rfl 5, hS3.cell 1 rfl 6, hS3.cell 1 rfl 7, hS3.cell 1 rfl 8, hS3.cell 1 rfl 9, hS3.cell 1 rfl 10, hS3.cell 1 rfl 11, hS3.cell 1 rfl 12, hS3.cell 1 rfl 13, hS3.cell 1 rfl 14⟩) (fun hHeld => ?_)
    clear hKq Kq
    (try simp only [pP])
    (iterate 2 (first | refine rQ1 ?_ | refine rQ2 ?_); try simp only [pP])
    refine wpAnyH_done (by kernel_rfl) ?_ _
    clear hHeld
    go_wp2
    go_ret
    exact ⟨ret_bool E.out.symm, hS3.bel⟩
end Go.Proofs.YthinhlcfpaaldaaGreat.Dat
