/- Whether a state's frames are those of an exit. -/
import Derived.Test.YthinhlcfpaaldaaGreatGoE
import Derived.Test.YthinhlcfpaaldaaGreatCapA
namespace Go.Proofs.YthinhlcfpaaldaaGreat.Dat
open Go Go.RowKit Go.Proofs.YthinhlcfpaaldaaGreat.Mem
set_option linter.unusedVariables false
set_option linter.unusedSimpArgs false
def eqF (x : DExFrame) (y : DFrame) : Bool := decide (x.fn = y.fn) && decide (x.pc = y.pc)
def eqAt (fs : List DExFrame) (gs : List DFrame) (i : Nat) : Bool := match fs[i]? with
  | none => true
  | some x => (match gs[i]? with
    | none => true
    | some y => eqF x y)
theorem eqAt_of {fs : List DExFrame} {gs : List DFrame} {i : Nat} {x : DExFrame} {y : DFrame} (hx : fs[i]? = some x) (hy : gs[i]? = some y) : eqAt fs gs i = eqF x y := by
  unfold eqAt
  rw [hx, hy]
/-- The topmost frames are as told. -/
def holdsL (fs : List DExFrame) (gs : List DFrame) : Bool := decide (fs.length ≤ gs.length) && (List.range fs.length).all (eqAt fs (gs.drop (gs.length - fs.length)))
def atX (es : List DExit) (x : Int) : List DExFrame := match es[x.toNat]? with
  | none => []
  | some e => e.frames
def exHoldsB (t : List ByteArray) (l : List DFunc) (c : DFast) (x : Int) (v : DVm) : Bool := fastOkB t l c && (btw x 0 ((c.exits.length : Int) - 1) && (vmOkB t l v && (decide (v.status = 0) && holdsL (atX c.exits x) v.frames)))
theorem eq_no {fs : List DExFrame} {gs : List DFrame} {n k : Nat} (hk : k < n) (h : eqAt fs gs k = false) : (List.range n).all (eqAt fs gs) = false := by
  rw [List.all_eq_false]
  exact ⟨k, List.mem_range.2 hk, by simp [h]⟩
theorem addS (ad : Addr) (a b : Nat) : (ad.add a).add b = ad.add (a + b) := by
  unfold Addr.add
  by_cases ha : a = 0
  · subst ha
    simp
  · rw [if_neg ha]
    by_cases hb : b = 0
    · subst hb
      rw [if_pos rfl, if_neg (by omega)]
      rfl
    · rw [if_neg hb, if_neg (by omega)]
      congr 1
      simp only
      omega
theorem row_dropK {α : Type} {d : Knd α} {W : World} {ad : Addr} {n : Nat} {xs : List α} (h : d.Row W (some ad) n xs) (k : Nat) (hk : k ≤ n) : d.Row W (some (ad.add (k * d.sz))) (n - k) (xs.drop k) := by
  refine ⟨by rw [List.length_drop, h.1], by have := h.2.1; omega, fun h0 => ?_⟩
  obtain ⟨ad', e, hc⟩ := h.2.2 (by omega)
  cases e
  refine ⟨_, rfl, fun j p hj => ?_⟩
  rw [List.getElem?_drop] at hj
  obtain ⟨c, h1, h2⟩ := hc (k + j) p hj
  refine ⟨c, h1, fun i u hu => ?_⟩
  have h3 := h2 i u hu
  rw [addS, show k * d.sz + (j * d.sz + i) = (k + j) * d.sz + i by rw [Nat.add_mul]; omega]
  exact h3
set_option maxHeartbeats 4000000 in
set_option maxRecDepth 100000 in
theorem eqCl (A2 A3 B2 B3 : Option Addr) (c2 c3 d2 d3 : Nat) (x : DExFrame) (y : DFrame) (w : World) :
    Calls Tryz.prog 124 #[.agg #[.int .i64 x.fn, .int .i64 x.pc, .slice A2 x.locals.length c2, .slice A3 x.stack.length c3], .agg #[.int .i64 y.fn, .int .i64 y.pc, .slice B2 y.locals.length d2, .slice B3 y.stack.length d3]] w fun e w' => e = .returned (.bool (eqF x y)) ∧ Below w.heap.size w w' := by
  have hS := ((St.start w).made (.cells #[.int .i64 x.fn, .int .i64 x.pc, .slice A2 x.locals.length c2, .slice A3 x.stack.length c3] 171 (0, 0))).madeAt (.cells #[.int .i64 y.fn, .int .i64 y.pc, .slice B2 y.locals.length d2, .slice B3 y.stack.length d3] 145 (0, 0)) (w.heap.size + 1) (by simp)
  by_cases hf : x.fn = y.fn
  · by_cases hp : x.pc = y.pc
    · have E := Lib.hid (show eqF x y = true by unfold eqF; rw [decide_eq_true hf, decide_eq_true hp]; rfl)
      have b1 : (x.fn == y.fn) = true := by simp [hf]
      have b2 : (x.pc == y.pc) = true := by simp [hp]
      clear hf hp
      go_enter Tryz.func124, Tryz.ntmps124
      go_wp2
      go_ret
      exact ⟨ret_bool E.out.symm, hS.bel⟩
    · have E := Lib.hid (show eqF x y = false by unfold eqF; rw [decide_eq_false hp, Bool.and_false])
      have b1 : (x.fn == y.fn) = true := by simp [hf]
      have b2 : (x.pc == y.pc) = false := by simp [hp]
      clear hf hp
      go_enter Tryz.func124, Tryz.ntmps124
      go_wp2
      go_ret
      exact ⟨ret_bool E.out.symm, hS.bel⟩
  · have E := Lib.hid (show eqF x y = false by unfold eqF; rw [decide_eq_false hf, Bool.false_and])
    have b1 : (x.fn == y.fn) = false := by simp [hf]
    clear hf
    go_enter Tryz.func124, Tryz.ntmps124
    go_wp2
    go_ret
    exact ⟨ret_bool E.out.symm, hS.bel⟩
set_option maxHeartbeats 4000000 in
set_option maxRecDepth 100000 in
theorem equalF (A B : Option Addr) (n ca cb : Nat) (fs : List DExFrame) (gs : List DFrame) (w : World) (ra : kExFrame.Row w A n fs) (rb : kFrame.Row w B n gs) (hn : n ≤ 1048576) :
    Calls Tryz.prog 123 #[.slice A n ca, .slice B n cb, .func (.func 124) #[] #[]] w fun e w' => e = .returned (.bool ((List.range n).all (eqAt fs gs))) ∧ Below w.heap.size w w' := by
  have hfl := ra.1
  have hgl := rb.1
  go_enter Tryz.func123, Tryz.ntmps123
  go_wp2
  go_loopw [17] (fun i wr => ∃ k : Nat, k ≤ n ∧ i = .int .i64 k ∧ Hid ((List.range k).all (eqAt fs gs) = true) ∧ Below w.heap.size w wr) (fun i _ => n - (intOf i).toNat)
  case atStart => exact ⟨0, by omega, rfl, Lib.hid rfl, Below.refl _ _⟩
  case round =>
    obtain ⟨k, hk, rfl, hb, hW⟩ := hrel
    by_cases hlt : k < n
    rotate_left
    · obtain rfl : k = n := by omega
      go_wp2
      go_ret
      exact ⟨ret_bool hb.out.symm, hW⟩
    obtain ⟨x, hx⟩ := get_exU fs k (by omega)
    obtain ⟨y, hy⟩ := get_exU gs k (by omega)
    obtain ⟨adA, A2, A3, c2, c3, rfl, p0', p1', p2', p3', _⟩ := kExFrame_at ra k x hx
    obtain ⟨adB, B2, B3, d2, d3, rfl, q0', q1', q2', q3', _⟩ := kFrame_at rb k y hy
    have p0 := kept hW p0'
    have p1 := kept hW p1'
    have p2 := kept hW p2'
    have p3 := kept hW p3'
    obtain ⟨g8, hg8⟩ : ∃ g8, wr.heap.size = g8 := ⟨_, rfl⟩
    have hW2 := bl_alloc hW (.cells #[.int .i64 x.fn, .int .i64 x.pc, .slice A2 x.locals.length c2, .slice A3 x.stack.length c3] 171 (0, 0))
    have q0 := kept hW2 q0'
    have q1 := kept hW2 q1'
    have q2 := kept hW2 q2'
    have q3 := kept hW2 q3'
    have hW3 := bl_alloc hW2 (.cells #[.int .i64 y.fn, .int .i64 y.pc, .slice B2 y.locals.length d2, .slice B3 y.stack.length d3] 145 (0, 0))
    have HA := Lib.hid (show (List.range (k + 1)).all (eqAt fs gs) = eqF x y by rw [range_all, hb.out, eqAt_of hx hy, Bool.true_and])
    have HNO := Lib.hid (fun h : eqF x y = false => eq_no (n := n) hlt ((eqAt_of hx hy).trans h))
    clear hx hy hfl hgl
    go_wp2_with fail
    refine (eqCl A2 A3 B2 B3 c2 c3 d2 d3 x y _).mono ?_
    rintro e w5 ⟨rfl, hb5⟩
    have hW5 := bl_step hW3 hb5
    cases he : eqF x y
    · have E := Lib.hid (HNO.out he)
      clear he
      go_wp2
      go_ret
      exact ⟨ret_bool E.out.symm, hW5⟩
    · have HN := Lib.hid (HA.out.trans he)
      clear he
      go_wp2
      go_roundw
      case rel => exact ⟨k + 1, by omega, by go_num, HN, hW5⟩
      case measure => simp [intOf]; omega
set_option maxHeartbeats 30000000 in
set_option maxRecDepth 100000 in
theorem holdsI (A B A4 A5 A0 A1 A3 : Option Addr) (c0 d0 c4 c5 e0 e1 e3 : Nat) (t : List ByteArray) (l : List DFunc) (c : DFast) (x : Int) (v : DVm) (w : World) (h : HasMod A B t l w) (r4 : kFOp.Row w A4 c.ops.length c.ops) (r5 : kExit.Row w A5 c.exits.length c.exits) (hM : MFast c) (hms : msFast c ≤ 1048576) (hl0 : v.frames.length ≤ e0) (r0 : kFrame.Row w A0 v.frames.length v.frames) (r1 : kRec.Row w A1 v.heap.length v.heap) (r3 : Knd.str.Row w A3 v.out.length v.out) (hMv : MVm v) {r : Bool} (hr : exHoldsB t l c x v = r) :
    Calls Tryz.prog 53 #[.agg #[.slice A t.length c0, .slice B l.length d0], .agg #[.int .i64 c.fn, .int .i64 c.entry, .int .i64 c.vals, .int .i64 c.nums, .slice A4 c.ops.length c4, .slice A5 c.exits.length c5], .int .i64 x, .agg #[.slice A0 v.frames.length e0, .slice A1 v.heap.length e1, .int .i64 v.made, .slice A3 v.out.length e3, .int .i64 v.status, .int .i64 v.trap, .int .i64 v.value.k, .int .i64 v.value.n, .string v.value.s, .int .i64 v.steps]] w fun e w' => e = .returned (.bool r) ∧ Below w.heap.size w w' := by
  subst hr
  have hS := (((St.start w).made (.cells #[.slice A t.length c0, .slice B l.length d0] 36 (0, 0))).madeAt (.cells #[.int .i64 c.fn, .int .i64 c.entry, .int .i64 c.vals, .int .i64 c.nums, .slice A4 c.ops.length c4, .slice A5 c.exits.length c5] 41 (0, 0)) (w.heap.size + 1) (by simp)).madeAt (.cells #[.slice A0 v.frames.length e0, .slice A1 v.heap.length e1, .int .i64 v.made, .slice A3 v.out.length e3, .int .i64 v.status, .int .i64 v.trap, .int .i64 v.value.k, .int .i64 v.value.n, .string v.value.s, .int .i64 v.steps] 67 (0, 0)) (w.heap.size + 1 + 1) (by simp)
  cases hf : fastOkB t l c
  · have E := Lib.hid (show exHoldsB t l c x v = false by unfold exHoldsB; rw [hf, Bool.false_and])
    have HF := Lib.hid hf
    clear hf
    go_enter Tryz.func53, Tryz.ntmps53
    go_wp2_with fail
    refine (fastOkI A B A4 A5 c0 d0 c4 c5 t l c _ (h.below hS.bel) (r4.below hS.bel) (r5.below hS.bel) hM hms HF.out).mono ?_
    rintro e w1 ⟨rfl, hb⟩
    replace hS := hS.step hb
    clear hb
    go_wp2
    go_ret
    exact ⟨ret_bool E.out.symm, hS.bel⟩
  have hb9 := fastOk_fast hf
  have hl9 := (fast_len hb9).2.2
  have hg : isGoodB t l = true := by unfold fastOkB at hf; rw [Bool.and_eq_true] at hf; exact hf.1
  have hfit := modFit (isGood_mod hg)
  have HG := Lib.hid hg
  have HF := Lib.hid hf
  have E0 : exHoldsB t l c x v = (btw x 0 ((c.exits.length : Int) - 1) && (vmB l v && (decide (v.status = 0) && holdsL (atX c.exits x) v.frames))) := by unfold exHoldsB vmOkB; rw [hf, hg]; rfl
  clear hf hg
  cases hx : btw x 0 ((c.exits.length : Int) - 1)
  · have E := Lib.hid (E0.trans (by rw [hx, Bool.false_and]))
    have HX := Lib.hid hx
    clear hx E0
    go_enter Tryz.func53, Tryz.ntmps53
    go_wp2_with fail
    refine (fastOkI A B A4 A5 c0 d0 c4 c5 t l c _ (h.below hS.bel) (r4.below hS.bel) (r5.below hS.bel) hM hms HF.out).mono ?_
    rintro e w1 ⟨rfl, hb⟩
    replace hS := hS.step hb
    clear hb
    have x_f := hS.cell 1 rfl
    go_wp2_with fail
    refine (isPlace _ HX.out (by omega) (by omega)).mono ?_
    rintro e w2 ⟨rfl, rfl⟩
    go_wp2
    go_ret
    exact ⟨ret_bool E.out.symm, hS.bel⟩
  rw [hx, Bool.true_and] at E0
  have hx2 := btw_true.1 hx
  have HX := Lib.hid hx
  cases hv : vmB l v
  · have E := Lib.hid (E0.trans (by rw [hv, Bool.false_and]))
    have HV := Lib.hid hv
    clear hv E0 hx
    go_enter Tryz.func53, Tryz.ntmps53
    go_wp2_with fail
    refine (fastOkI A B A4 A5 c0 d0 c4 c5 t l c _ (h.below hS.bel) (r4.below hS.bel) (r5.below hS.bel) hM hms HF.out).mono ?_
    rintro e w1 ⟨rfl, hb⟩
    replace hS := hS.step hb
    clear hb
    have x_f := hS.cell 1 rfl
    have x_m := hS.cell 2 rfl
    have x_v := hS.cell 0 rfl
    go_wp2_with fail
    refine (isPlace _ HX.out (by omega) (by omega)).mono ?_
    rintro e w2 ⟨rfl, rfl⟩
    go_wp2_with fail
    refine (vmOkI A B A0 A1 A3 c0 d0 e0 e1 e3 t l v _ (h.below hS.bel) (r0.below hS.bel) (r1.below hS.bel) (r3.below hS.bel) hMv (show vmOkB t l v = vmB l v by unfold vmOkB; rw [HG.out]; rfl)).mono ?_
    rintro e w3 ⟨rfl, hb⟩
    rw [HV.out]
    replace hS := hS.step hb
    clear hb
    go_wp2
    go_ret
    exact ⟨ret_bool E.out.symm, hS.bel⟩
  rw [hv, Bool.true_and] at E0
  have HV := Lib.hid hv
  by_cases hs : v.status = 0
  rotate_left
  · have E := Lib.hid (E0.trans (by rw [decide_eq_false hs, Bool.false_and]))
    have m1 : (v.status != 0) = true := by simp [hs]
    clear hv E0 hx hs
    go_enter Tryz.func53, Tryz.ntmps53
    go_wp2_with fail
    refine (fastOkI A B A4 A5 c0 d0 c4 c5 t l c _ (h.below hS.bel) (r4.below hS.bel) (r5.below hS.bel) hM hms HF.out).mono ?_
    rintro e w1 ⟨rfl, hb⟩
    replace hS := hS.step hb
    clear hb
    have x_f := hS.cell 1 rfl
    have x_m := hS.cell 2 rfl
    have x_v := hS.cell 0 rfl
    go_wp2_with fail
    refine (isPlace _ HX.out (by omega) (by omega)).mono ?_
    rintro e w2 ⟨rfl, rfl⟩
    go_wp2_with fail
    refine (vmOkI A B A0 A1 A3 c0 d0 e0 e1 e3 t l v _ (h.below hS.bel) (r0.below hS.bel) (r1.below hS.bel) (r3.below hS.bel) hMv (show vmOkB t l v = vmB l v by unfold vmOkB; rw [HG.out]; rfl)).mono ?_
    rintro e w3 ⟨rfl, hb⟩
    rw [HV.out]
    replace hS := hS.step hb
    clear hb
    clear x_f x_m x_v
    have x_v := hS.cell 0 rfl
    go_wp2
    go_ret
    exact ⟨ret_bool E.out.symm, hS.bel⟩
  rw [decide_eq_true hs, Bool.true_and] at E0
  have hvf := vm_frames hv hs
  have m1 : (v.status != 0) = false := by simp [hs]
  obtain ⟨kx, rfl⟩ : ∃ kx : Nat, x = kx := ⟨x.toNat, by omega⟩
  obtain ⟨z, hz⟩ := get_exU c.exits kx (by omega)
  obtain ⟨n1, n2, _⟩ := exit_frames (fast_exit hb9 z (List.mem_of_getElem? hz))
  have E1 : exHoldsB t l c (kx : Int) v = holdsL z.frames v.frames := by rw [E0]; unfold atX; rw [Int.toNat_natCast, hz]
  obtain ⟨ad, AF, AR, cf, cr, rfl, q0, q1, q2, q3, q4, q5', q6, hlF, rF, _, _⟩ := kExit_at r5 kx z hz
  have k0 : (0 : Int) ≤ (kx : Int) := by omega
  have k1 : (kx : Int) < c.exits.length := by omega
  have k2 : kx < c.exits.length := by omega
  clear hv E0 hx hs q0 q1 q2 q3 q4 q6 hz
  go_enter Tryz.func53, Tryz.ntmps53
  go_wp2_with fail
  refine (fastOkI A B A4 _ c0 d0 c4 c5 t l c _ (h.below hS.bel) (r4.below hS.bel) (r5.below hS.bel) hM hms HF.out).mono ?_
  rintro e w1 ⟨rfl, hb⟩
  replace hS := hS.step hb
  clear hb
  have x_f := hS.cell 1 rfl
  have x_m := hS.cell 2 rfl
  have x_v := hS.cell 0 rfl
  go_wp2_with fail
  refine (isPlace _ HX.out (by omega) (by omega)).mono ?_
  rintro e w2 ⟨rfl, rfl⟩
  go_wp2_with fail
  refine (vmOkI A B A0 A1 A3 c0 d0 e0 e1 e3 t l v _ (h.below hS.bel) (r0.below hS.bel) (r1.below hS.bel) (r3.below hS.bel) hMv (show vmOkB t l v = vmB l v by unfold vmOkB; rw [HG.out]; rfl)).mono ?_
  rintro e w3 ⟨rfl, hb⟩
  rw [HV.out]
  replace hS := hS.step hb
  clear hb
  clear x_f x_m x_v
  have x_v := hS.cell 0 rfl
  have x_f := hS.cell 1 rfl
  have q5 := kept hS.bel q5'
  by_cases hle : z.frames.length ≤ v.frames.length
  rotate_left
  · have E := Lib.hid (E1.trans (show _ = false by unfold holdsL; rw [decide_eq_false hle, Bool.false_and]))
    clear E1
    have hlt : v.frames.length < z.frames.length := by omega
    go_wp2
    go_ret
    exact ⟨ret_bool E.out.symm, hS.bel⟩
  obtain ⟨j, hj⟩ : ∃ j, v.frames.length - z.frames.length = j := ⟨_, rfl⟩
  have E2 := Lib.hid (E1.trans (show _ = (List.range z.frames.length).all (eqAt z.frames (v.frames.drop j)) by unfold holdsL; rw [decide_eq_true hle, hj, Bool.true_and]))
  have eJ : (v.frames.length : Int) - (z.frames.length : Int) = (j : Int) := by omega
  have hjl : j + z.frames.length = v.frames.length := by omega
  clear E1 hj
  obtain ⟨y0, hy0⟩ := get_exU v.frames 0 (by omega)
  obtain ⟨adV, _, _, _, _, rfl, _⟩ := kFrame_at r0 0 y0 hy0
  have rd := row_dropK (d := kFrame) r0 j (by omega)
  rw [show v.frames.length - j = z.frames.length by omega] at rd
  have ej0 : ¬ (e0 = j) := by omega
  have ejl : j < e0 := by omega
  have eD : (v.frames.length : Int) - (j : Int) = (z.frames.length : Int) := by omega
  have eDn : v.frames.length - j = z.frames.length := by omega
  have HD := Lib.hid rd
  clear hy0 rd hlF
  go_wp2_with (go_at_call 123; go_must (refine (equalF AF (some (adV.add (j * 4))) z.frames.length cf _ z.frames (v.frames.drop j) _ (rF.below hS.bel) (HD.out.below hS.bel) (by omega)).mono ?_); rintro e w4 ⟨rfl, hb⟩; replace hS := hS.step hb)
  go_ret
  exact ⟨ret_bool E2.out.symm, hS.bel⟩
set_option maxHeartbeats 30000000 in
set_option maxRecDepth 100000 in
theorem holds3 (A B A4 A5 A0 A1 A3 : Option Addr) (c0 d0 c4 c5 e0 e1 e3 : Nat) (t : List ByteArray) (l : List DFunc) (c : DFast) (x : Int) (v : DVm) (w : World) (h : HasMod A B t l w) (r4 : kFOp.Row w A4 c.ops.length c.ops) (r5 : kExit.Row w A5 c.exits.length c.exits) (hM : MFast c) (hms : msFast c ≤ 1048576) (hl0 : v.frames.length ≤ e0) (r0 : kFrame.Row w A0 v.frames.length v.frames) (r1 : kRec.Row w A1 v.heap.length v.heap) (r3 : Knd.str.Row w A3 v.out.length v.out) (hMv : MVm v) {r : Bool} (hr : exHoldsB t l c x v = r) :
    Calls Tryz.prog 52 #[.agg #[.slice A t.length c0, .slice B l.length d0], .agg #[.int .i64 c.fn, .int .i64 c.entry, .int .i64 c.vals, .int .i64 c.nums, .slice A4 c.ops.length c4, .slice A5 c.exits.length c5], .int .i64 x, .agg #[.slice A0 v.frames.length e0, .slice A1 v.heap.length e1, .int .i64 v.made, .slice A3 v.out.length e3, .int .i64 v.status, .int .i64 v.trap, .int .i64 v.value.k, .int .i64 v.value.n, .string v.value.s, .int .i64 v.steps]] w fun e w' => e = .returned (.bool r) ∧ Below w.heap.size w w' := by
  subst hr
  have hS := (((St.start w).made (.cells #[.slice A t.length c0, .slice B l.length d0] 36 (0, 0))).madeAt (.cells #[.int .i64 c.fn, .int .i64 c.entry, .int .i64 c.vals, .int .i64 c.nums, .slice A4 c.ops.length c4, .slice A5 c.exits.length c5] 41 (0, 0)) (w.heap.size + 1) (by simp)).madeAt (.cells #[.slice A0 v.frames.length e0, .slice A1 v.heap.length e1, .int .i64 v.made, .slice A3 v.out.length e3, .int .i64 v.status, .int .i64 v.trap, .int .i64 v.value.k, .int .i64 v.value.n, .string v.value.s, .int .i64 v.steps] 67 (0, 0)) (w.heap.size + 1 + 1) (by simp)
  cases hf : fastOkB t l c
  · have E := Lib.hid (show exHoldsB t l c x v = false by unfold exHoldsB; rw [hf, Bool.false_and])
    have HF := Lib.hid hf
    clear hf
    go_enter Tryz.func52, Tryz.ntmps52
    go_wp2_with fail
    refine (fastOk3 A B A4 A5 c0 d0 c4 c5 t l c _ (h.below hS.bel) (r4.below hS.bel) (r5.below hS.bel) hM hms HF.out).mono ?_
    rintro e w1 ⟨rfl, hb⟩
    replace hS := hS.step hb
    clear hb
    go_wp2
    go_ret
    exact ⟨ret_bool E.out.symm, hS.bel⟩
  have hb9 := fastOk_fast hf
  have hl9 := (fast_len hb9).2.2
  have hg : isGoodB t l = true := by unfold fastOkB at hf; rw [Bool.and_eq_true] at hf; exact hf.1
  have hfit := modFit (isGood_mod hg)
  have HG := Lib.hid hg
  have HF := Lib.hid hf
  have E0 : exHoldsB t l c x v = (btw x 0 ((c.exits.length : Int) - 1) && (vmB l v && (decide (v.status = 0) && holdsL (atX c.exits x) v.frames))) := by unfold exHoldsB vmOkB; rw [hf, hg]; rfl
  clear hf hg
  cases hx : btw x 0 ((c.exits.length : Int) - 1)
  · have E := Lib.hid (E0.trans (by rw [hx, Bool.false_and]))
    have HX := Lib.hid hx
    clear hx E0
    go_enter Tryz.func52, Tryz.ntmps52
    go_wp2_with fail
    refine (fastOk3 A B A4 A5 c0 d0 c4 c5 t l c _ (h.below hS.bel) (r4.below hS.bel) (r5.below hS.bel) hM hms HF.out).mono ?_
    rintro e w1 ⟨rfl, hb⟩
    replace hS := hS.step hb
    clear hb
    have x_f := hS.cell 1 rfl
    go_wp2_with fail
    refine (between _ HX.out).mono ?_
    rintro e w2 ⟨rfl, rfl⟩
    go_wp2
    go_ret
    exact ⟨ret_bool E.out.symm, hS.bel⟩
  rw [hx, Bool.true_and] at E0
  have hx2 := btw_true.1 hx
  have HX := Lib.hid hx
  cases hv : vmB l v
  · have E := Lib.hid (E0.trans (by rw [hv, Bool.false_and]))
    have HV := Lib.hid hv
    clear hv E0 hx
    go_enter Tryz.func52, Tryz.ntmps52
    go_wp2_with fail
    refine (fastOk3 A B A4 A5 c0 d0 c4 c5 t l c _ (h.below hS.bel) (r4.below hS.bel) (r5.below hS.bel) hM hms HF.out).mono ?_
    rintro e w1 ⟨rfl, hb⟩
    replace hS := hS.step hb
    clear hb
    have x_f := hS.cell 1 rfl
    have x_m := hS.cell 2 rfl
    have x_v := hS.cell 0 rfl
    go_wp2_with fail
    refine (between _ HX.out).mono ?_
    rintro e w2 ⟨rfl, rfl⟩
    go_wp2_with fail
    refine (vm03 A B A0 A1 A3 c0 d0 e0 e1 e3 t l v _ (h.below hS.bel) hfit (r0.below hS.bel) (r1.below hS.bel) (r3.below hS.bel) hMv).mono ?_
    rintro e w3 ⟨rfl, hb⟩
    rw [HV.out]
    replace hS := hS.step hb
    clear hb
    go_wp2
    go_ret
    exact ⟨ret_bool E.out.symm, hS.bel⟩
  rw [hv, Bool.true_and] at E0
  have HV := Lib.hid hv
  by_cases hs : v.status = 0
  rotate_left
  · have E := Lib.hid (E0.trans (by rw [decide_eq_false hs, Bool.false_and]))
    have m1 : (v.status != 0) = true := by simp [hs]
    clear hv E0 hx hs
    go_enter Tryz.func52, Tryz.ntmps52
    go_wp2_with fail
    refine (fastOk3 A B A4 A5 c0 d0 c4 c5 t l c _ (h.below hS.bel) (r4.below hS.bel) (r5.below hS.bel) hM hms HF.out).mono ?_
    rintro e w1 ⟨rfl, hb⟩
    replace hS := hS.step hb
    clear hb
    have x_f := hS.cell 1 rfl
    have x_m := hS.cell 2 rfl
    have x_v := hS.cell 0 rfl
    go_wp2_with fail
    refine (between _ HX.out).mono ?_
    rintro e w2 ⟨rfl, rfl⟩
    go_wp2_with fail
    refine (vm03 A B A0 A1 A3 c0 d0 e0 e1 e3 t l v _ (h.below hS.bel) hfit (r0.below hS.bel) (r1.below hS.bel) (r3.below hS.bel) hMv).mono ?_
    rintro e w3 ⟨rfl, hb⟩
    rw [HV.out]
    replace hS := hS.step hb
    clear hb
    clear x_f x_m x_v
    have x_v := hS.cell 0 rfl
    go_wp2
    go_ret
    exact ⟨ret_bool E.out.symm, hS.bel⟩
  rw [decide_eq_true hs, Bool.true_and] at E0
  have hvf := vm_frames hv hs
  have m1 : (v.status != 0) = false := by simp [hs]
  obtain ⟨kx, rfl⟩ : ∃ kx : Nat, x = kx := ⟨x.toNat, by omega⟩
  obtain ⟨z, hz⟩ := get_exU c.exits kx (by omega)
  obtain ⟨n1, n2, _⟩ := exit_frames (fast_exit hb9 z (List.mem_of_getElem? hz))
  have E1 : exHoldsB t l c (kx : Int) v = holdsL z.frames v.frames := by rw [E0]; unfold atX; rw [Int.toNat_natCast, hz]
  obtain ⟨ad, AF, AR, cf, cr, rfl, q0, q1, q2, q3, q4, q5', q6, hlF, rF, _, _⟩ := kExit_at r5 kx z hz
  have k0 : (0 : Int) ≤ (kx : Int) := by omega
  have k1 : (kx : Int) < c.exits.length := by omega
  have k2 : kx < c.exits.length := by omega
  clear hv E0 hx hs q0 q1 q2 q3 q4 q6 hz
  go_enter Tryz.func52, Tryz.ntmps52
  go_wp2_with fail
  refine (fastOk3 A B A4 _ c0 d0 c4 c5 t l c _ (h.below hS.bel) (r4.below hS.bel) (r5.below hS.bel) hM hms HF.out).mono ?_
  rintro e w1 ⟨rfl, hb⟩
  replace hS := hS.step hb
  clear hb
  have x_f := hS.cell 1 rfl
  have x_m := hS.cell 2 rfl
  have x_v := hS.cell 0 rfl
  go_wp2_with fail
  refine (between _ HX.out).mono ?_
  rintro e w2 ⟨rfl, rfl⟩
  go_wp2_with fail
  refine (vm03 A B A0 A1 A3 c0 d0 e0 e1 e3 t l v _ (h.below hS.bel) hfit (r0.below hS.bel) (r1.below hS.bel) (r3.below hS.bel) hMv).mono ?_
  rintro e w3 ⟨rfl, hb⟩
  rw [HV.out]
  replace hS := hS.step hb
  clear hb
  clear x_f x_m x_v
  have x_v := hS.cell 0 rfl
  have x_f := hS.cell 1 rfl
  have q5 := kept hS.bel q5'
  by_cases hle : z.frames.length ≤ v.frames.length
  rotate_left
  · have E := Lib.hid (E1.trans (show _ = false by unfold holdsL; rw [decide_eq_false hle, Bool.false_and]))
    clear E1
    have hlt : v.frames.length < z.frames.length := by omega
    go_wp2
    go_ret
    exact ⟨ret_bool E.out.symm, hS.bel⟩
  obtain ⟨j, hj⟩ : ∃ j, v.frames.length - z.frames.length = j := ⟨_, rfl⟩
  have E2 := Lib.hid (E1.trans (show _ = (List.range z.frames.length).all (eqAt z.frames (v.frames.drop j)) by unfold holdsL; rw [decide_eq_true hle, hj, Bool.true_and]))
  have eJ : (v.frames.length : Int) - (z.frames.length : Int) = (j : Int) := by omega
  have hjl : j + z.frames.length = v.frames.length := by omega
  clear E1 hj
  clear x_v x_f
  have x_v := hS.cell 0 rfl
  have x_f := hS.cell 1 rfl
  go_wp2
  clear x_v x_f q5
  go_loopw [11] (fun i wr => ∃ k : Nat, k ≤ z.frames.length ∧ i = .int .i64 k ∧ Hid ((List.range k).all (eqAt z.frames (v.frames.drop j)) = true) ∧ St w [Res.box (w.heap.size + 1 + 1) (.cells #[.slice A0 v.frames.length e0, .slice A1 v.heap.length e1, .int .i64 v.made, .slice A3 v.out.length e3, .int .i64 v.status, .int .i64 v.trap, .int .i64 v.value.k, .int .i64 v.value.n, .string v.value.s, .int .i64 v.steps] 67 (0, 0)), Res.box (w.heap.size + 1) (.cells #[.int .i64 c.fn, .int .i64 c.entry, .int .i64 c.vals, .int .i64 c.nums, .slice A4 c.ops.length c4, .slice (some ad) c.exits.length c5] 41 (0, 0)), Res.box w.heap.size (.cells #[.slice A t.length c0, .slice B l.length d0] 36 (0, 0))] wr) (fun i _ => z.frames.length - (intOf i).toNat)
  case atStart => exact ⟨0, by omega, rfl, Lib.hid rfl, hS⟩
  case round =>
    clear hS
    obtain ⟨k, hk, rfl, hb, hS⟩ := hrel
    by_cases hlt : k < z.frames.length
    rotate_left
    · obtain rfl : k = z.frames.length := by omega
      have E3 := Lib.hid (E2.out.trans hb.out)
      go_wp2
      go_ret
      exact ⟨ret_bool E3.out.symm, hS.bel⟩
    obtain ⟨f, hf⟩ := get_exU z.frames k hlt
    obtain ⟨y, hy⟩ := get_exU v.frames (j + k) (by omega)
    have hy2 : (v.frames.drop j)[k]? = some y := by rw [List.getElem?_drop]; exact hy
    obtain ⟨adA, A2, A7, c2, c3, rfl, p0', p1', _⟩ := kExFrame_at rF k f hf
    obtain ⟨adB, B2, B7, d2, d3, rfl, u0', u1', _⟩ := kFrame_at r0 (j + k) y hy
    obtain ⟨m, hjm⟩ : ∃ m, j + k = m := ⟨_, rfl⟩
    rw [hjm] at u0' u1'
    have hSd := hS.drew
    have eA : IntKind.i64.wrap ((j : Int) + (k : Int)) = (m : Int) := by rw [IntWalk.i64_in _ (by omega)]; omega
    have a0 : (0 : Int) ≤ (m : Int) := by omega
    have a1 : (m : Int) < v.frames.length := by omega
    have a2 : m < v.frames.length := by omega
    have HA := Lib.hid (show (List.range (k + 1)).all (eqAt z.frames (v.frames.drop j)) = eqF f y by rw [range_all, hb.out, eqAt_of hf hy2, Bool.true_and])
    have HNO := Lib.hid (fun h : eqF f y = false => E2.out.trans (eq_no (n := z.frames.length) hlt ((eqAt_of hf hy2).trans h)))
    clear hf hy hy2
    by_cases hf1 : f.fn = y.fn
    · have m2 : (y.fn != f.fn) = false := by simp [hf1]
      by_cases hp1 : f.pc = y.pc
      · have m3 : (y.pc != f.pc) = false := by simp [hp1]
        have HN := Lib.hid (HA.out.trans (show eqF f y = true by unfold eqF; rw [decide_eq_true hf1, decide_eq_true hp1]; rfl))
        clear hf1 hp1
        go_wp2
        refine wp_region_held_drew (S := (fun (w' : World) => w'.cell? ⟨w.heap.size + 1 + 1, 0, none⟩ = some (.slice (some adB) v.frames.length e0) ∧ w'.cell? (adA.add (k * 4)) = some (.int .i64 f.fn) ∧ w'.cell? ⟨(adA.add (k * 4)).block, (adA.add (k * 4)).off + 1, none⟩ = some (.int .i64 f.pc) ∧ w'.cell? (adB.add (m * 4)) = some (.int .i64 y.fn) ∧ w'.cell? ⟨(adB.add (m * 4)).block, (adB.add (m * 4)).off + 1, none⟩ = some (.int .i64 y.pc))) (by kernel_rfl) (⟨hSd.cell 0 rfl 0, kept hSd.bel p0', kept hSd.bel p1', kept hSd.bel u0', kept hSd.bel u1'⟩) (fun hHeld => ?_)
        (iterate 30 (first | refine rQ1 ?_ | refine rQ2 ?_); try simp only [pP])
        refine wpAnyH_done (by kernel_rfl) ?_ _
        clear hHeld
        go_wp2
        go_roundw
        case rel => exact ⟨k + 1, by omega, by go_num, HN, hSd⟩
        case measure => simp [intOf]; omega
      · have m3 : (y.pc != f.pc) = true := by simp; exact fun e => hp1 e.symm
        have E := Lib.hid (HNO.out (show eqF f y = false by unfold eqF; rw [decide_eq_false hp1, Bool.and_false]))
        clear hf1 hp1
        go_wp2
        refine wp_region_held_drew (S := (fun (w' : World) => w'.cell? ⟨w.heap.size + 1 + 1, 0, none⟩ = some (.slice (some adB) v.frames.length e0) ∧ w'.cell? (adA.add (k * 4)) = some (.int .i64 f.fn) ∧ w'.cell? ⟨(adA.add (k * 4)).block, (adA.add (k * 4)).off + 1, none⟩ = some (.int .i64 f.pc) ∧ w'.cell? (adB.add (m * 4)) = some (.int .i64 y.fn) ∧ w'.cell? ⟨(adB.add (m * 4)).block, (adB.add (m * 4)).off + 1, none⟩ = some (.int .i64 y.pc))) (by kernel_rfl) (⟨hSd.cell 0 rfl 0, kept hSd.bel p0', kept hSd.bel p1', kept hSd.bel u0', kept hSd.bel u1'⟩) (fun hHeld => ?_)
        (iterate 30 (first | refine rQ1 ?_ | refine rQ2 ?_); try simp only [pP])
        refine wpAnyH_done (by kernel_rfl) ?_ _
        clear hHeld
        go_wp2
        go_ret
        exact ⟨ret_bool E.out.symm, hSd.bel⟩
    · have m2 : (y.fn != f.fn) = true := by simp; exact fun e => hf1 e.symm
      have E := Lib.hid (HNO.out (show eqF f y = false by unfold eqF; rw [decide_eq_false hf1, Bool.false_and]))
      clear hf1
      go_wp2
      refine wp_region_held_drew (S := (fun (w' : World) => w'.cell? ⟨w.heap.size + 1 + 1, 0, none⟩ = some (.slice (some adB) v.frames.length e0) ∧ w'.cell? (adA.add (k * 4)) = some (.int .i64 f.fn) ∧ w'.cell? ⟨(adA.add (k * 4)).block, (adA.add (k * 4)).off + 1, none⟩ = some (.int .i64 f.pc) ∧ w'.cell? (adB.add (m * 4)) = some (.int .i64 y.fn) ∧ w'.cell? ⟨(adB.add (m * 4)).block, (adB.add (m * 4)).off + 1, none⟩ = some (.int .i64 y.pc))) (by kernel_rfl) (⟨hSd.cell 0 rfl 0, kept hSd.bel p0', kept hSd.bel p1', kept hSd.bel u0', kept hSd.bel u1'⟩) (fun hHeld => ?_)
      (iterate 15 (first | refine rQ1 ?_ | refine rQ2 ?_); try simp only [pP])
      refine regS (fun _ _ _ d h => by cases d <;> exact h) [15, 16, 17, 18, 19, 20, 21, 22, 23, 24, 25, 26, 27, 28] _ _ _ rfl (by kernel_rfl) (by assumption) ?_
      simp only [skipL, List.getElem?_cons_zero, List.getElem?_cons_succ, Option.bind_some, pP]
      (first | refine rQ1 ?_ | refine rQ2 ?_); (try simp only [pP])
      refine wpAnyH_done (by kernel_rfl) ?_ _
      clear hHeld
      go_wp2
      go_ret
      exact ⟨ret_bool E.out.symm, hSd.bel⟩
end Go.Proofs.YthinhlcfpaaldaaGreat.Dat
