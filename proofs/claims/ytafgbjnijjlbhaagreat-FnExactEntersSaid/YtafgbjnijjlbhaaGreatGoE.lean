/- Whether a state stands at the entry of code. -/
import Derived.Test.YtafgbjnijjlbhaaGreatGoI
import Derived.Test.YtafgbjnijjlbhaaGreatVmO
namespace Go.Proofs.YtafgbjnijjlbhaaGreat.Dat
open Go Go.RowKit Go.Proofs.YtafgbjnijjlbhaaGreat.Mem
set_option linter.unusedVariables false
set_option linter.unusedSimpArgs false
set_option maxHeartbeats 4000000 in
set_option maxRecDepth 100000 in
theorem entE (A0 A1 A3 A4 A5 : Option Addr) (e0 e1 e3 c4 c5 : Nat) (c : DFast) (v : DVm) (w : World) (r0 : kFrame.Row w A0 v.frames.length v.frames) (hfr : v.status = 0 → 1 ≤ v.frames.length ∧ v.frames.length ≤ 24) :
    Calls Tryz.prog 87 #[.agg #[.int .i64 c.fn, .int .i64 c.entry, .int .i64 c.vals, .int .i64 c.nums, .slice A4 c.ops.length c4, .slice A5 c.exits.length c5], .agg #[.slice A0 v.frames.length e0, .slice A1 v.heap.length e1, .int .i64 v.made, .slice A3 v.out.length e3, .int .i64 v.status, .int .i64 v.trap, .int .i64 v.value.k, .int .i64 v.value.n, .string v.value.s, .int .i64 v.steps]] w fun e w' => e = .returned (.bool (entB c v)) ∧ Below w.heap.size w w' := by
  have hS := ((St.start w).made (.cells #[.int .i64 c.fn, .int .i64 c.entry, .int .i64 c.vals, .int .i64 c.nums, .slice A4 c.ops.length c4, .slice A5 c.exits.length c5] 40 (0, 0))).madeAt (.cells #[.slice A0 v.frames.length e0, .slice A1 v.heap.length e1, .int .i64 v.made, .slice A3 v.out.length e3, .int .i64 v.status, .int .i64 v.trap, .int .i64 v.value.k, .int .i64 v.value.n, .string v.value.s, .int .i64 v.steps] 69 (0, 0)) (w.heap.size + 1) (by simp)
  by_cases h0 : v.status = 0
  rotate_left
  · have E := Lib.hid (show entB c v = false by unfold entB; rw [decide_eq_false h0, Bool.false_and])
    have m1 : (v.status != 0) = true := by simp [h0]
    have m2 : (v.status == 0) = false := by simp [h0]
    clear h0
    go_enter Tryz.func87, Tryz.ntmps87
    go_wp2
    go_ret
    exact ⟨ret_bool E.out.symm, hS.bel⟩
  obtain ⟨n1, n2⟩ := hfr h0
  obtain ⟨z, hz⟩ := get_exU v.frames (v.frames.length - 1) (by omega)
  have E := Lib.hid (show entB c v = (decide (z.fn = c.fn) && decide (z.pc = c.entry)) by unfold entB; rw [decide_eq_true h0, hz]; rfl)
  have m1 : (v.status != 0) = false := by simp [h0]
  have m2 : (v.status == 0) = true := by simp [h0]
  obtain ⟨ad, A7, A8, c7, c8, rfl, q0, q1, q2, q3, _⟩ := kFrame_at r0 (v.frames.length - 1) z hz
  have u0 := kept hS.bel q0
  have u1 := kept hS.bel q1
  have u2 := kept hS.bel q2
  have u3 := kept hS.bel q3
  have eL : IntKind.i64.wrap ((v.frames.length : Int) - 1) = (v.frames.length : Int) - 1 := IntWalk.i64_in _ (by omega)
  have eN : ((v.frames.length : Int) - 1).toNat = v.frames.length - 1 := by omega
  have l0 : (0 : Int) ≤ (v.frames.length : Int) - 1 := by omega
  have l1 : (v.frames.length : Int) - 1 < v.frames.length := by omega
  have l2 : v.frames.length - 1 < v.frames.length := by omega
  have hT := hS.made (.cells #[.int .i64 z.fn, .int .i64 z.pc, .slice A7 z.locals.length c7, .slice A8 z.stack.length c8] 136 (0, 0))
  clear h0 hz q0 q1 q2 q3 hfr
  by_cases hf : z.fn = c.fn
  · by_cases hp : z.pc = c.entry
    · have E2 := Lib.hid (E.out.trans (show _ = true by rw [decide_eq_true hf, decide_eq_true hp]; rfl))
      have b1 : (z.fn == c.fn) = true := by simp [hf]
      have b2 : (z.pc == c.entry) = true := by simp [hp]
      clear hf hp E
      go_enter Tryz.func87, Tryz.ntmps87
      go_wp2
      go_ret
      exact ⟨ret_bool E2.out.symm, hT.bel⟩
    · have E2 := Lib.hid (E.out.trans (show _ = false by rw [decide_eq_false hp, Bool.and_false]))
      have b1 : (z.fn == c.fn) = true := by simp [hf]
      have b2 : (z.pc == c.entry) = false := by simp [hp]
      clear hf hp E
      go_enter Tryz.func87, Tryz.ntmps87
      go_wp2
      go_ret
      exact ⟨ret_bool E2.out.symm, hT.bel⟩
  · have E2 := Lib.hid (E.out.trans (show _ = false by rw [decide_eq_false hf, Bool.false_and]))
    have b1 : (z.fn == c.fn) = false := by simp [hf]
    clear hf E
    go_enter Tryz.func87, Tryz.ntmps87
    go_wp2
    go_ret
    exact ⟨ret_bool E2.out.symm, hT.bel⟩
set_option maxHeartbeats 4000000 in
set_option maxRecDepth 100000 in
theorem ent12 (A0 A1 A3 A4 A5 : Option Addr) (e0 e1 e3 c4 c5 : Nat) (c : DFast) (v : DVm) (w : World) (r0 : kFrame.Row w A0 v.frames.length v.frames) (hfr : v.status = 0 → 1 ≤ v.frames.length ∧ v.frames.length ≤ 24) :
    Calls Tryz.prog 82 #[.agg #[.int .i64 c.fn, .int .i64 c.entry, .int .i64 c.vals, .int .i64 c.nums, .slice A4 c.ops.length c4, .slice A5 c.exits.length c5], .agg #[.slice A0 v.frames.length e0, .slice A1 v.heap.length e1, .int .i64 v.made, .slice A3 v.out.length e3, .int .i64 v.status, .int .i64 v.trap, .int .i64 v.value.k, .int .i64 v.value.n, .string v.value.s, .int .i64 v.steps]] w fun e w' => e = .returned (.bool (entB c v)) ∧ Below w.heap.size w w' := by
  have hS := ((St.start w).made (.cells #[.int .i64 c.fn, .int .i64 c.entry, .int .i64 c.vals, .int .i64 c.nums, .slice A4 c.ops.length c4, .slice A5 c.exits.length c5] 40 (0, 0))).madeAt (.cells #[.slice A0 v.frames.length e0, .slice A1 v.heap.length e1, .int .i64 v.made, .slice A3 v.out.length e3, .int .i64 v.status, .int .i64 v.trap, .int .i64 v.value.k, .int .i64 v.value.n, .string v.value.s, .int .i64 v.steps] 69 (0, 0)) (w.heap.size + 1) (by simp)
  by_cases h0 : v.status = 0
  rotate_left
  · have E := Lib.hid (show entB c v = false by unfold entB; rw [decide_eq_false h0, Bool.false_and])
    have m1 : (v.status != 0) = true := by simp [h0]
    have m2 : (v.status == 0) = false := by simp [h0]
    clear h0
    go_enter Tryz.func82, Tryz.ntmps82
    go_wp2
    go_ret
    exact ⟨ret_bool E.out.symm, hS.bel⟩
  obtain ⟨n1, n2⟩ := hfr h0
  obtain ⟨z, hz⟩ := get_exU v.frames (v.frames.length - 1) (by omega)
  have E := Lib.hid (show entB c v = (decide (z.fn = c.fn) && decide (z.pc = c.entry)) by unfold entB; rw [decide_eq_true h0, hz]; rfl)
  have m1 : (v.status != 0) = false := by simp [h0]
  have m2 : (v.status == 0) = true := by simp [h0]
  obtain ⟨ad, A7, A8, c7, c8, rfl, q0, q1, q2, q3, _⟩ := kFrame_at r0 (v.frames.length - 1) z hz
  have u0 := kept hS.bel q0
  have u1 := kept hS.bel q1
  have u2 := kept hS.bel q2
  have u3 := kept hS.bel q3
  have eL : IntKind.i64.wrap ((v.frames.length : Int) - 1) = (v.frames.length : Int) - 1 := IntWalk.i64_in _ (by omega)
  have eN : ((v.frames.length : Int) - 1).toNat = v.frames.length - 1 := by omega
  have l0 : (0 : Int) ≤ (v.frames.length : Int) - 1 := by omega
  have l1 : (v.frames.length : Int) - 1 < v.frames.length := by omega
  have l2 : v.frames.length - 1 < v.frames.length := by omega
  have hT := hS.made (.cells #[.int .i64 z.fn, .int .i64 z.pc, .slice A7 z.locals.length c7, .slice A8 z.stack.length c8] 136 (0, 0))
  clear h0 hz q0 q1 q2 q3 hfr
  by_cases hf : z.fn = c.fn
  · by_cases hp : z.pc = c.entry
    · have E2 := Lib.hid (E.out.trans (show _ = true by rw [decide_eq_true hf, decide_eq_true hp]; rfl))
      have b1 : (z.fn == c.fn) = true := by simp [hf]
      have b2 : (z.pc == c.entry) = true := by simp [hp]
      clear hf hp E
      go_enter Tryz.func82, Tryz.ntmps82
      go_wp2
      go_ret
      exact ⟨ret_bool E2.out.symm, hT.bel⟩
    · have E2 := Lib.hid (E.out.trans (show _ = false by rw [decide_eq_false hp, Bool.and_false]))
      have b1 : (z.fn == c.fn) = true := by simp [hf]
      have b2 : (z.pc == c.entry) = false := by simp [hp]
      clear hf hp E
      go_enter Tryz.func82, Tryz.ntmps82
      go_wp2
      go_ret
      exact ⟨ret_bool E2.out.symm, hT.bel⟩
  · have E2 := Lib.hid (E.out.trans (show _ = false by rw [decide_eq_false hf, Bool.false_and]))
    have b1 : (z.fn == c.fn) = false := by simp [hf]
    clear hf E
    go_enter Tryz.func82, Tryz.ntmps82
    go_wp2
    go_ret
    exact ⟨ret_bool E2.out.symm, hT.bel⟩
set_option maxHeartbeats 4000000 in
set_option maxRecDepth 100000 in
theorem entersI (A B A4 A5 A0 A1 A3 : Option Addr) (c0 d0 c4 c5 e0 e1 e3 : Nat) (t : List ByteArray) (l : List DFunc) (c : DFast) (v : DVm) (w : World) (h : HasMod A B t l w) (r4 : kFOp.Row w A4 c.ops.length c.ops) (r5 : kExit.Row w A5 c.exits.length c.exits) (hM : MFast c) (hms : msFast c ≤ 1048576) (r0 : kFrame.Row w A0 v.frames.length v.frames) (r1 : kRec.Row w A1 v.heap.length v.heap) (r3 : Knd.str.Row w A3 v.out.length v.out) (hMv : MVm v) {r : Bool} (hr : entersB t l c v = r) :
    Calls Tryz.prog 41 #[.agg #[.slice A t.length c0, .slice B l.length d0], .agg #[.int .i64 c.fn, .int .i64 c.entry, .int .i64 c.vals, .int .i64 c.nums, .slice A4 c.ops.length c4, .slice A5 c.exits.length c5], .agg #[.slice A0 v.frames.length e0, .slice A1 v.heap.length e1, .int .i64 v.made, .slice A3 v.out.length e3, .int .i64 v.status, .int .i64 v.trap, .int .i64 v.value.k, .int .i64 v.value.n, .string v.value.s, .int .i64 v.steps]] w fun e w' => e = .returned (.bool r) ∧ Below w.heap.size w w' := by
  subst hr
  have hS := (((St.start w).made (.cells #[.slice A t.length c0, .slice B l.length d0] 35 (0, 0))).madeAt (.cells #[.int .i64 c.fn, .int .i64 c.entry, .int .i64 c.vals, .int .i64 c.nums, .slice A4 c.ops.length c4, .slice A5 c.exits.length c5] 40 (0, 0)) (w.heap.size + 1) (by simp)).madeAt (.cells #[.slice A0 v.frames.length e0, .slice A1 v.heap.length e1, .int .i64 v.made, .slice A3 v.out.length e3, .int .i64 v.status, .int .i64 v.trap, .int .i64 v.value.k, .int .i64 v.value.n, .string v.value.s, .int .i64 v.steps] 69 (0, 0)) (w.heap.size + 1 + 1) (by simp)
  cases hf : fastOkB t l c
  · have E := Lib.hid (show entersB t l c v = false by unfold entersB; rw [hf]; rfl)
    have HF := Lib.hid hf
    clear hf
    go_enter Tryz.func41, Tryz.ntmps41
    go_wp2_with fail
    refine (fastOkI A B A4 A5 c0 d0 c4 c5 t l c _ (h.below hS.bel) (r4.below hS.bel) (r5.below hS.bel) hM hms HF.out).mono ?_
    rintro e w1 ⟨rfl, hb⟩
    replace hS := hS.step hb
    clear hb
    go_wp2
    go_ret
    exact ⟨ret_bool E.out.symm, hS.bel⟩
  have hg : isGoodB t l = true := by unfold fastOkB at hf; rw [Bool.and_eq_true] at hf; exact hf.1
  have hfit := modFit (isGood_mod hg)
  have HG := Lib.hid hg
  have HF := Lib.hid hf
  have E0 : entersB t l c v = (vmB l v && entB c v) := by unfold entersB vmOkB; rw [hf, hg]; rfl
  clear hf hg
  go_enter Tryz.func41, Tryz.ntmps41
  go_wp2_with fail
  refine (fastOkI A B A4 A5 c0 d0 c4 c5 t l c _ (h.below hS.bel) (r4.below hS.bel) (r5.below hS.bel) hM hms HF.out).mono ?_
  rintro e w1 ⟨rfl, hb⟩
  replace hS := hS.step hb
  clear hb
  have x_m := hS.cell 2 rfl
  have x_f := hS.cell 1 rfl
  have x_v := hS.cell 0 rfl
  cases hv : vmB l v
  · have E := Lib.hid (E0.trans (by rw [hv, Bool.false_and]))
    have HV := Lib.hid hv
    clear hv E0
    go_wp2_with fail
    refine (vmOkI A B A0 A1 A3 c0 d0 e0 e1 e3 t l v _ (h.below hS.bel) (r0.below hS.bel) (r1.below hS.bel) (r3.below hS.bel) hMv (show vmOkB t l v = vmB l v by unfold vmOkB; rw [HG.out]; rfl)).mono ?_
    rintro e w2 ⟨rfl, hb⟩
    rw [HV.out]
    replace hS := hS.step hb
    go_wp2
    go_ret
    exact ⟨ret_bool E.out.symm, hS.bel⟩
  have E := Lib.hid (E0.trans (show _ = entB c v by rw [hv]; rfl))
  have HFR := Lib.hid (fun h0 : v.status = 0 => vm_frames hv h0)
  have HV := Lib.hid hv
  clear hv E0
  go_wp2_with fail
  refine (vmOkI A B A0 A1 A3 c0 d0 e0 e1 e3 t l v _ (h.below hS.bel) (r0.below hS.bel) (r1.below hS.bel) (r3.below hS.bel) hMv (show vmOkB t l v = vmB l v by unfold vmOkB; rw [HG.out]; rfl)).mono ?_
  rintro e w2 ⟨rfl, hb⟩
  rw [HV.out]
  replace hS := hS.step hb
  clear hb x_m x_f x_v
  have x_f := hS.cell 1 rfl
  have x_v := hS.cell 0 rfl
  go_wp2_with fail
  refine (entE A0 A1 A3 A4 A5 e0 e1 e3 c4 c5 c v _ (r0.below hS.bel) HFR.out).mono ?_
  rintro e w3 ⟨rfl, hb⟩
  replace hS := hS.step hb
  go_wp2
  go_ret
  exact ⟨ret_bool E.out.symm, hS.bel⟩
set_option maxHeartbeats 4000000 in
set_option maxRecDepth 100000 in
theorem enters3 (A B A4 A5 A0 A1 A3 : Option Addr) (c0 d0 c4 c5 e0 e1 e3 : Nat) (t : List ByteArray) (l : List DFunc) (c : DFast) (v : DVm) (w : World) (h : HasMod A B t l w) (r4 : kFOp.Row w A4 c.ops.length c.ops) (r5 : kExit.Row w A5 c.exits.length c.exits) (hM : MFast c) (hms : msFast c ≤ 1048576) (r0 : kFrame.Row w A0 v.frames.length v.frames) (r1 : kRec.Row w A1 v.heap.length v.heap) (r3 : Knd.str.Row w A3 v.out.length v.out) (hMv : MVm v) {r : Bool} (hr : entersB t l c v = r) :
    Calls Tryz.prog 39 #[.agg #[.slice A t.length c0, .slice B l.length d0], .agg #[.int .i64 c.fn, .int .i64 c.entry, .int .i64 c.vals, .int .i64 c.nums, .slice A4 c.ops.length c4, .slice A5 c.exits.length c5], .agg #[.slice A0 v.frames.length e0, .slice A1 v.heap.length e1, .int .i64 v.made, .slice A3 v.out.length e3, .int .i64 v.status, .int .i64 v.trap, .int .i64 v.value.k, .int .i64 v.value.n, .string v.value.s, .int .i64 v.steps]] w fun e w' => e = .returned (.bool r) ∧ Below w.heap.size w w' := by
  subst hr
  have hS := (((St.start w).made (.cells #[.slice A t.length c0, .slice B l.length d0] 35 (0, 0))).madeAt (.cells #[.int .i64 c.fn, .int .i64 c.entry, .int .i64 c.vals, .int .i64 c.nums, .slice A4 c.ops.length c4, .slice A5 c.exits.length c5] 40 (0, 0)) (w.heap.size + 1) (by simp)).madeAt (.cells #[.slice A0 v.frames.length e0, .slice A1 v.heap.length e1, .int .i64 v.made, .slice A3 v.out.length e3, .int .i64 v.status, .int .i64 v.trap, .int .i64 v.value.k, .int .i64 v.value.n, .string v.value.s, .int .i64 v.steps] 69 (0, 0)) (w.heap.size + 1 + 1) (by simp)
  cases hf : fastOkB t l c
  · have E := Lib.hid (show entersB t l c v = false by unfold entersB; rw [hf]; rfl)
    have HF := Lib.hid hf
    clear hf
    go_enter Tryz.func39, Tryz.ntmps39
    go_wp2_with fail
    refine (fastOk3 A B A4 A5 c0 d0 c4 c5 t l c _ (h.below hS.bel) (r4.below hS.bel) (r5.below hS.bel) hM hms HF.out).mono ?_
    rintro e w1 ⟨rfl, hb⟩
    replace hS := hS.step hb
    clear hb
    go_wp2
    go_ret
    exact ⟨ret_bool E.out.symm, hS.bel⟩
  have hg : isGoodB t l = true := by unfold fastOkB at hf; rw [Bool.and_eq_true] at hf; exact hf.1
  have hfit := modFit (isGood_mod hg)
  have HG := Lib.hid hg
  have HF := Lib.hid hf
  have E0 : entersB t l c v = (vmB l v && entB c v) := by unfold entersB vmOkB; rw [hf, hg]; rfl
  clear hf hg
  go_enter Tryz.func39, Tryz.ntmps39
  go_wp2_with fail
  refine (fastOk3 A B A4 A5 c0 d0 c4 c5 t l c _ (h.below hS.bel) (r4.below hS.bel) (r5.below hS.bel) hM hms HF.out).mono ?_
  rintro e w1 ⟨rfl, hb⟩
  replace hS := hS.step hb
  clear hb
  have x_m := hS.cell 2 rfl
  have x_f := hS.cell 1 rfl
  have x_v := hS.cell 0 rfl
  cases hv : vmB l v
  · have E := Lib.hid (E0.trans (by rw [hv, Bool.false_and]))
    have HV := Lib.hid hv
    clear hv E0
    go_wp2_with fail
    refine (vm03 A B A0 A1 A3 c0 d0 e0 e1 e3 t l v _ (h.below hS.bel) hfit (r0.below hS.bel) (r1.below hS.bel) (r3.below hS.bel) hMv).mono ?_
    rintro e w2 ⟨rfl, hb⟩
    rw [HV.out]
    replace hS := hS.step hb
    go_wp2
    go_ret
    exact ⟨ret_bool E.out.symm, hS.bel⟩
  have E := Lib.hid (E0.trans (show _ = entB c v by rw [hv]; rfl))
  have HFR := Lib.hid (fun h0 : v.status = 0 => vm_frames hv h0)
  have HV := Lib.hid hv
  clear hv E0
  go_wp2_with fail
  refine (vm03 A B A0 A1 A3 c0 d0 e0 e1 e3 t l v _ (h.below hS.bel) hfit (r0.below hS.bel) (r1.below hS.bel) (r3.below hS.bel) hMv).mono ?_
  rintro e w2 ⟨rfl, hb⟩
  rw [HV.out]
  replace hS := hS.step hb
  clear hb x_m x_f x_v
  have x_f := hS.cell 1 rfl
  have x_v := hS.cell 0 rfl
  go_wp2_with fail
  refine (ent12 A0 A1 A3 A4 A5 e0 e1 e3 c4 c5 c v _ (r0.below hS.bel) HFR.out).mono ?_
  rintro e w3 ⟨rfl, hb⟩
  replace hS := hS.step hb
  go_wp2
  go_ret
  exact ⟨ret_bool E.out.symm, hS.bel⟩
end Go.Proofs.YtafgbjnijjlbhaaGreat.Dat
