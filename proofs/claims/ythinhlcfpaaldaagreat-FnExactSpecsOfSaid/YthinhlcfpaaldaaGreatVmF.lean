/- A frame's sizes, in the program. -/
import Derived.Test.YthinhlcfpaaldaaGreatVmI
namespace Go.Proofs.YthinhlcfpaaldaaGreat.Dat
open Go Go.RowKit Go.Proofs.YthinhlcfpaaldaaGreat.Mem
set_option linter.unusedVariables false
set_option linter.unusedSimpArgs false
theorem frmF_loc {y : DFunc} {d : List Int} {pc : Int} {nl ns : Nat} {last : Bool} (h : ¬ (nl : Int) = y.locals) : frmF y d pc nl ns last = false := by unfold frmF; rw [decide_eq_false h, Bool.false_and]
theorem frmF_pc {y : DFunc} {d : List Int} {pc : Int} {nl ns : Nat} {last : Bool} (h : btw pc 0 ((y.code.length : Int) - 1) = false) : frmF y d pc nl ns last = false := by unfold frmF; rw [h, Bool.false_and, Bool.and_false]
theorem frmF_high {y : DFunc} {d : List Int} {pc : Int} {nl ns : Nat} {last : Bool} (h : at0 d pc < 0) : frmF y d pc nl ns last = false := by
  have h2 : ¬ (0 ≤ at0 d pc) := by omega
  unfold frmF; rw [decide_eq_false h2, Bool.false_and, Bool.and_false, Bool.and_false]
theorem frmF_ok {y : DFunc} {d : List Int} {pc : Int} {nl ns : Nat} {last : Bool} (h1 : (nl : Int) = y.locals) (h2 : btw pc 0 ((y.code.length : Int) - 1) = true) (h3 : 0 ≤ at0 d pc) : frmF y d pc nl ns last = frmL y d pc ns last := by unfold frmF; rw [decide_eq_true h1, h2, decide_eq_true h3]; rfl
set_option maxHeartbeats 8000000 in
set_option maxRecDepth 100000 in
theorem frameI (A B D : Option Addr) (c d e0 : Nat) (t : List ByteArray) (l : List DFunc) (fn pc : Int) (nl ns : Nat) (last : Bool) (w : World) (h : HasMod A B t l w) (hfit : ModFit t l) (hD : kHgh.Row w D l.length (highsL l)) :
    Calls Tryz.prog 250 #[.agg #[.slice A t.length c, .slice B l.length d], .slice D l.length e0, .int .i64 fn, .int .i64 pc, .int .i64 nl, .int .i64 ns, .bool last] w fun e w' => e = .returned (.bool (frmB l fn pc nl ns last)) ∧ Below w.heap.size w w' := by
  have hm := hfit.n12
  have hS := (St.start w).made (.cells #[.slice A t.length c, .slice B l.length d] 36 (0, 0))
  cases hF : btw fn 0 ((l.length : Int) - 1)
  · have E := Lib.hid (frmB_no hF pc nl ns last)
    have HF := Lib.hid hF
    clear hF
    go_enter Tryz.func250, Tryz.ntmps250
    go_wp2_with (go_at_call 122; (with_reducible refine (isPlace _ HF.out (by omega) (by omega)).mono ?_); rintro e w' ⟨rfl, rfl⟩)
    go_ret
    exact ⟨ret_bool E.out.symm, bl9⟩
  have hF2 := btw_true.1 hF
  obtain ⟨k, rfl⟩ : ∃ k : Nat, fn = k := ⟨fn.toNat, by omega⟩
  obtain ⟨y, hy⟩ := get_exU l k (by omega)
  have hym := List.mem_of_getElem? hy
  have hyl := hfit.loc y hym
  have hc120 := hfit.c120 y hym
  rw [frmB_at hy]
  obtain ⟨adB, A2, c2, rfl, q0', q1', q2', hq, hr2⟩ := kFunc_at h.hr k y hy
  obtain ⟨adD, A3, c3, rfl, p0', hp, hr3⟩ := kHgh_at hD k _ (highsL_at hy)
  have hH := hfit.hgt hym
  obtain ⟨dd, hdd⟩ : ∃ dd, depthsL l y.code = dd := ⟨_, rfl⟩
  rw [hdd] at p0' hp hr3 hH ⊢
  rw [hH.1] at p0' hp hr3
  have q1 := kept hS.bel q1'
  have q2 := kept hS.bel q2'
  have p0 := kept hS.bel p0'
  have HF := Lib.hid hF
  have k0 : (0 : Int) ≤ (k : Int) := by omega
  have k1 : (k : Int) < l.length := by omega
  have k2 : k < l.length := by omega
  clear hF hF2 hdd q0' q1' q2' p0'
  by_cases hL : (nl : Int) = y.locals
  rotate_left
  · have E := Lib.hid (frmF_loc (d := dd) (pc := pc) (ns := ns) (last := last) hL)
    have hL2 : ((nl : Int) == y.locals) = false := by simpa using hL
    have hL3 : ((nl : Int) != y.locals) = true := by simpa using hL
    clear hL hy hr3
    go_enter Tryz.func250, Tryz.ntmps250
    go_wp2_with (go_at_call 122; (with_reducible refine (isPlace _ HF.out (by omega) (by omega)).mono ?_); rintro e w' ⟨rfl, rfl⟩)
    go_ret
    exact ⟨ret_bool E.out.symm, bl9⟩
  have hL2 : ((nl : Int) == y.locals) = true := by simpa using hL
  have hL3 : ((nl : Int) != y.locals) = false := by simpa using hL
  cases hP : btw pc 0 ((y.code.length : Int) - 1)
  · have E := Lib.hid (frmF_pc (d := dd) (nl := nl) (ns := ns) (last := last) hP)
    have HP := Lib.hid hP
    clear hL hy hr3 hP
    go_enter Tryz.func250, Tryz.ntmps250
    go_wp2_with (go_at_call 122; first | ((with_reducible refine (isPlace _ HF.out (by omega) (by omega)).mono ?_); rintro e w' ⟨rfl, rfl⟩) | ((with_reducible refine (isPlace _ HP.out (by omega) (by omega)).mono ?_); rintro e w' ⟨rfl, rfl⟩))
    go_ret
    exact ⟨ret_bool E.out.symm, bl9⟩
  have hP2 := btw_true.1 hP
  obtain ⟨j, rfl⟩ : ∃ j : Nat, pc = j := ⟨pc.toNat, by omega⟩
  have j0 : (0 : Int) ≤ (j : Int) := by omega
  have j1 : (j : Int) < y.code.length := by omega
  have j2 : j < y.code.length := by omega
  obtain ⟨ad3, rfl, u0'⟩ := hr3.one j _ (at0_get (by rw [hH.1]; exact j2))
  have u0 := kept hS.bel u0'
  have hat := hH.at_ j
  have HP := Lib.hid hP
  have E0 := fun h3 => frmF_ok (d := dd) (ns := ns) (last := last) hL hP h3
  obtain ⟨z, hz⟩ : ∃ z, at0 dd j = z := ⟨_, rfl⟩
  have hE1 := fun h3 => frmF_high (y := y) (d := dd) (pc := (j : Int)) (nl := nl) (ns := ns) (last := last) h3
  rw [hz] at u0 hat E0 hE1
  clear hP u0'
  by_cases hz0 : z < 0
  · have E := Lib.hid (hE1 hz0)
    clear hL hy hr3 E0 hE1 hz
    go_enter Tryz.func250, Tryz.ntmps250
    go_wp2_with (go_at_call 122; first | ((with_reducible refine (isPlace _ HF.out (by omega) (by omega)).mono ?_); rintro e w' ⟨rfl, rfl⟩) | ((with_reducible refine (isPlace _ HP.out (by omega) (by omega)).mono ?_); rintro e w' ⟨rfl, rfl⟩))
    go_ret
    exact ⟨ret_bool E.out.symm, bl9⟩
  rw [E0 (by omega)]
  have z0 : 0 ≤ z := by omega
  clear E0 hE1 hL hz0
  cases last
  rotate_left
  · have E := Lib.hid (show frmL y dd (j : Int) ns true = decide ((ns : Int) = z) by unfold frmL; rw [if_pos rfl, hz])
    clear hy hr3 hz
    go_enter Tryz.func250, Tryz.ntmps250
    go_wp2_with (go_at_call 122; first | ((with_reducible refine (isPlace _ HF.out (by omega) (by omega)).mono ?_); rintro e w' ⟨rfl, rfl⟩) | ((with_reducible refine (isPlace _ HP.out (by omega) (by omega)).mono ?_); rintro e w' ⟨rfl, rfl⟩))
    go_ret
    exact ⟨ret_bool (by rw [E.out, Bool.eq_iff_iff]; simp), bl9⟩
  rcases Nat.eq_zero_or_pos j with h0 | h0
  · have E := Lib.hid (show frmL y dd (j : Int) ns false = false by unfold frmL; rw [if_neg (by simp), decide_eq_false (by omega), Bool.false_and])
    have m0 : ((j : Int) == 0) = true := by simp [h0]
    clear hy hr3 hz h0
    go_enter Tryz.func250, Tryz.ntmps250
    go_wp2_with (go_at_call 122; first | ((with_reducible refine (isPlace _ HF.out (by omega) (by omega)).mono ?_); rintro e w' ⟨rfl, rfl⟩) | ((with_reducible refine (isPlace _ HP.out (by omega) (by omega)).mono ?_); rintro e w' ⟨rfl, rfl⟩))
    go_ret
    exact ⟨ret_bool E.out.symm, bl9⟩
  obtain ⟨i, rfl⟩ : ∃ i, j = i + 1 := ⟨j - 1, by omega⟩
  obtain ⟨x, hx⟩ := get_exU y.code i (by omega)
  have e1 : ((i + 1 : Nat) : Int) - 1 = (i : Int) := by omega
  have E2 : frmL y dd ((i + 1 : Nat) : Int) ns false = (decide (0 ≤ at0 dd i) && (isCal x.op && decide ((ns : Int) = z - 1))) := by
    unfold frmL
    rw [if_neg (by simp), decide_eq_true (by omega), Bool.true_and, hz, e1, opAt_at hx]
  obtain ⟨_, e3, v0'⟩ := hr3.one i _ (at0_get (by rw [hH.1]; omega))
  cases e3
  have v0 := kept hS.bel v0'
  have hai := hH.at_ i
  obtain ⟨m, hj⟩ : ∃ m, i + 1 = m := ⟨_, rfl⟩
  have i0 : (0 : Int) ≤ (i : Int) := by omega
  have i1 : (i : Int) < y.code.length := by omega
  have i2 : i < y.code.length := by omega
  obtain ⟨s, hs⟩ : ∃ s, at0 dd i = s := ⟨_, rfl⟩
  rw [hs] at v0 hai E2
  rw [hj] at HP u0 j0 j1 j2 e1 E2 ⊢
  have m0 : ((m : Int) == 0) = false := by simp; omega
  have m1 : (m == 0) = false := by simp; omega
  have ew : IntKind.i64.wrap ((m : Int) - 1) = (i : Int) := by rw [e1]; exact IntWalk.i64_in _ (by omega)
  clear hy hr3 hz hs v0' hj h0
  by_cases hs0 : s < 0
  · have E := Lib.hid (E2.trans (by rw [decide_eq_false (by omega), Bool.false_and]))
    clear E2 hx
    go_enter Tryz.func250, Tryz.ntmps250
    go_wp2_with (go_at_call 122; first | ((with_reducible refine (isPlace _ HF.out (by omega) (by omega)).mono ?_); rintro e w' ⟨rfl, rfl⟩) | ((with_reducible refine (isPlace _ HP.out (by omega) (by omega)).mono ?_); rintro e w' ⟨rfl, rfl⟩))
    go_ret
    exact ⟨ret_bool E.out.symm, bl9⟩
  have E3 := E2.trans (show _ = (isCal x.op && decide ((ns : Int) = z - 1)) by rw [decide_eq_true (by omega), Bool.true_and])
  have s0 : 0 ≤ s := by omega
  obtain ⟨adC, rfl, r0', r1'⟩ := kIns_at hr2 i x hx
  have r0 := kept hS.bel r0'
  have ez : IntKind.i64.wrap (z - 1) = z - 1 := IntWalk.i64_in _ (by omega)
  clear E2 hs0 hx r0' r1'
  cases hc : isCal x.op
  · have E := Lib.hid (E3.trans (by rw [hc, Bool.false_and]))
    have c3 : (x.op == 23) = false := by unfold isCal at hc; simp at hc; simp; omega
    have c4 : (x.op == 24) = false := by unfold isCal at hc; simp at hc; simp; omega
    clear E3 hc
    go_enter Tryz.func250, Tryz.ntmps250
    go_wp2_with (go_at_call 122; first | ((with_reducible refine (isPlace _ HF.out (by omega) (by omega)).mono ?_); rintro e w' ⟨rfl, rfl⟩) | ((with_reducible refine (isPlace _ HP.out (by omega) (by omega)).mono ?_); rintro e w' ⟨rfl, rfl⟩))
    go_ret
    exact ⟨ret_bool E.out.symm, bl9⟩
  have E := Lib.hid (E3.trans (show _ = decide ((ns : Int) = z - 1) by rw [hc, Bool.true_and]))
  obtain ⟨op, a⟩ := x
  have hc' : op = 23 ∨ op = 24 := by unfold isCal at hc; simp at hc; exact hc
  clear E3 hc
  rcases hc' with rfl | rfl
  · go_enter Tryz.func250, Tryz.ntmps250
    go_wp2_with (go_at_call 122; first | ((with_reducible refine (isPlace _ HF.out (by omega) (by omega)).mono ?_); rintro e w' ⟨rfl, rfl⟩) | ((with_reducible refine (isPlace _ HP.out (by omega) (by omega)).mono ?_); rintro e w' ⟨rfl, rfl⟩))
    go_ret
    exact ⟨ret_bool (by rw [E.out, Bool.eq_iff_iff]; simp), bl9⟩
  · go_enter Tryz.func250, Tryz.ntmps250
    go_wp2_with (go_at_call 122; first | ((with_reducible refine (isPlace _ HF.out (by omega) (by omega)).mono ?_); rintro e w' ⟨rfl, rfl⟩) | ((with_reducible refine (isPlace _ HP.out (by omega) (by omega)).mono ?_); rintro e w' ⟨rfl, rfl⟩))
    go_ret
    exact ⟨ret_bool (by rw [E.out, Bool.eq_iff_iff]; simp), bl9⟩
end Go.Proofs.YthinhlcfpaaldaaGreat.Dat
