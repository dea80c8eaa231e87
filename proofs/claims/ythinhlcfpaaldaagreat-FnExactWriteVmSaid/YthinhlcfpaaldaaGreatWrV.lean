/- A state written as numbers: the program's way and the reference's. Written by a program (wrvgen.py). -/
import Derived.Test.YthinhlcfpaaldaaGreatWrA
import Derived.Test.YthinhlcfpaaldaaGreatWrU
import Derived.Test.YthinhlcfpaaldaaGreatVmK
namespace Go.Proofs.YthinhlcfpaaldaaGreat.Dat
open Go Go.RowKit Go.Proofs.YthinhlcfpaaldaaGreat.Mem
set_option linter.unusedVariables false
set_option linter.unusedSimpArgs false
def writeVmL (t : List ByteArray) (l : List DFunc) (v : DVm) : List Int := if vmOkB t l v then encVm v else []
theorem writeVm_small (t : List ByteArray) (l : List DFunc) (v : DVm) (h : msVm v ≤ 1048576) : (writeVmL t l v).length ≤ 4194316 := by
  unfold writeVmL
  split
  · have := encVm_len v
    omega
  · simp

theorem wrValue {w0 : World} {L : List Res} {g : Nat} (x : DValue) : WrValue w0 L g encV x := fun W' v' ys F' hS hb => wValueI x hS hb
theorem wrText {w0 : World} {L : List Res} {g : Nat} (x : ByteArray) : WrText w0 L g encT x := fun W' v' ys F' hS hb => wTextI x hS hb
set_option maxHeartbeats 8000000 in
set_option maxRecDepth 100000 in
theorem wrFrame {w0 : World} {L : List Res} {g bx : Nat} (x : DFrame) (hM : MFrame x) : WrFrame w0 (Res.box bx (.cells #[.pointer (some ⟨g, 0, none⟩)] 238 (0, 0)) :: L) g bx encF x := by
  intro W' v0 ys F0 hS hb A2 A3 c2 c3 r2 r3
  have S1 := (hS.made (.cells #[.int .i64 x.fn, .int .i64 x.pc, .slice A2 x.locals.length c2, .slice A3 x.stack.length c3] 145 (0, 0))).second
  have T0 := (Tn.of hS 0 rfl).al (.cells #[.int .i64 x.fn, .int .i64 x.pc, .slice A2 x.locals.length c2, .slice A3 x.stack.length c3] 145 (0, 0))
  have b1 := S1.cell 2 rfl
  have x1 := S1.cell 1 rfl
  unfold encF at hb
  simp only [List.length_cons, List.length_append] at hb
  go_enter Tryz.func171, Tryz.ntmps171
  go_wp2_with fail
  refine (wPut2 x.fn x.pc _ _ _ S1 (by simp) (by omega)).mono ?_
  rintro e w1 ⟨rfl, v1, F1, T1⟩
  clear b1 x1
  have S2 := S1.turn 0 rfl T1
  have T2 := T0.turn T1
  have b1 := S2.cell 2 rfl
  have x1 := S2.cell 1 rfl
  go_wp2_with fail
  refine (writeAllValue A2 c2 x.locals encV S2 r2 hM.1.1 (by (try simp only [List.length_append, List.length_cons, List.length_nil]); omega) (fun y _ => wrValue y)).mono ?_
  rintro e w3 ⟨rfl, v3, F3, T21⟩
  clear b1 x1
  have S3 := S2.turn 0 rfl T21
  have b1 := S3.cell 2 rfl
  have x1 := S3.cell 1 rfl
  have T3 := T2.turn T21
  go_wp2_with fail
  refine (writeAllValue A3 c3 x.stack encV S3 r3 hM.2.1 (by (try simp only [List.length_append, List.length_cons, List.length_nil]); omega) (fun y _ => wrValue y)).mono ?_
  rintro e w4 ⟨rfl, v4, F4, T22⟩
  have T4 := T3.turn T22
  rw [show ((ys ++ [x.fn, x.pc]) ++ encL encV x.locals) ++ encL encV x.stack = ys ++ encF x by simp [encF]] at T4
  go_wp2
  go_end0
  exact ⟨rfl, _, _, T4⟩
set_option maxHeartbeats 8000000 in
set_option maxRecDepth 100000 in
theorem wrRec {w0 : World} {L : List Res} {g bx : Nat} (x : DRec) (hM : MRec x) : WrRec w0 (Res.box bx (.cells #[.pointer (some ⟨g, 0, none⟩)] 238 (0, 0)) :: L) g bx encR x := by
  intro W' v0 ys F0 hS hb A0 c0 r0
  have S1 := (hS.made (.cells #[.slice A0 x.fields.length c0] 148 (0, 0))).second
  have T0 := (Tn.of hS 0 rfl).al (.cells #[.slice A0 x.fields.length c0] 148 (0, 0))
  have b1 := S1.cell 2 rfl
  have x1 := S1.cell 1 rfl
  unfold encR at hb
  go_enter Tryz.func176, Tryz.ntmps176
  go_wp2_with fail
  refine (writeAllValue A0 c0 x.fields encV S1 r0 hM.1 (by (try simp only [List.length_append, List.length_cons, List.length_nil]); omega) (fun y _ => wrValue y)).mono ?_
  rintro e w2 ⟨rfl, v2, F2, T20⟩
  have T2 := T0.turn T20
  rw [show ys ++ encL encV x.fields = ys ++ encR x by rfl] at T2
  go_wp2
  go_end0
  exact ⟨rfl, _, _, T2⟩
set_option maxHeartbeats 8000000 in
set_option maxRecDepth 100000 in
theorem writeVmC (A0 A1 A3 : Option Addr) (e0 e1 e3 : Nat) (v : DVm) (w : World) (r0 : kFrame.Row w A0 v.frames.length v.frames) (r1 : kRec.Row w A1 v.heap.length v.heap) (r3 : Knd.str.Row w A3 v.out.length v.out) (hMv : MVm v) (hms : msVm v ≤ 1048576) :
    Calls Tryz.prog 104 #[.agg #[.slice A0 v.frames.length e0, .slice A1 v.heap.length e1, .int .i64 v.made, .slice A3 v.out.length e3, .int .i64 v.status, .int .i64 v.trap, .int .i64 v.value.k, .int .i64 v.value.n, .string v.value.s, .int .i64 v.steps]] w (NewRow (Knd.int .i64) 3 (encVm v) w) := by
  have q1 := encL_len (enc := encF) (ms := msFrame) 4 v.frames (fun x _ => encF_len x)
  have q2 := encL_len (enc := encR) (ms := msRec) 3 v.heap (fun x _ => encR_len x)
  have q3 := encL_len (enc := encT) (ms := ByteArray.size) 1 v.out (fun x _ => by rw [encT_len]; omega)
  have q4 := encV_len v.value
  have hlF := hMv.1.1
  have hlH := hMv.2.1.1
  have hlO := hMv.2.2.1.1
  have hms2 : sumOf msFrame v.frames + sumOf msRec v.heap + sumOf ByteArray.size v.out + v.value.s.size ≤ 1048576 := hms
  have hV := (St.start w).made (.cells #[.slice A0 v.frames.length e0, .slice A1 v.heap.length e1, .int .i64 v.made, .slice A3 v.out.length e3, .int .i64 v.status, .int .i64 v.trap, .int .i64 v.value.k, .int .i64 v.value.n, .string v.value.s, .int .i64 v.steps] 67 (0, 0))
  have hS := ((hV.madeAt (.cells #[.slice none 0 0] 240 (0, 0)) (w.heap.size + 1) (by simp)).mkWr (e := 3))
  replace hS := (hS.madeAt (.cells #[.pointer (some ⟨w.heap.size + 1, 0, none⟩)] 238 (0, 0)) (w.heap.size + 1 + 1) (by simp)).second
  clear hV
  have b1 := hS.cell 1 rfl
  have x1 := hS.cell 2 rfl
  go_enter Tryz.func104, Tryz.ntmps104
  go_wp2_with fail
  refine (writeAllFrame (bx := w.heap.size + 1 + 1) A0 e0 v.frames encF hS r0 hMv.1.1 (by simp only [List.length_append, List.length_cons, List.length_nil]; omega) (fun y hy => wrFrame y (hMv.1.2 y hy))).mono ?_
  rintro e w1 ⟨rfl, v1, F1, T1⟩
  clear b1 x1
  replace hS := hS.turn 0 rfl T1
  clear T1
  have b1 := hS.cell 1 rfl
  have x1 := hS.cell 2 rfl
  go_wp2_with fail
  refine (writeAllRec (bx := w.heap.size + 1 + 1) A1 e1 v.heap encR hS r1 hMv.2.1.1 (by simp only [List.length_append, List.length_cons, List.length_nil]; omega) (fun y hy => wrRec y (hMv.2.1.2 y hy))).mono ?_
  rintro e w2 ⟨rfl, v2, F2, T2⟩
  clear b1 x1
  replace hS := hS.turn 0 rfl T2
  clear T2
  have b1 := hS.cell 1 rfl
  have x1 := hS.cell 2 rfl
  go_wp2_with fail
  refine (wPut1 v.made _ _ _ hS rfl (by simp only [List.length_append, List.length_cons, List.length_nil]; omega)).mono ?_
  rintro e w3 ⟨rfl, v3, F3, T3⟩
  clear b1 x1
  replace hS := hS.turn 0 rfl T3
  clear T3
  have b1 := hS.cell 1 rfl
  have x1 := hS.cell 2 rfl
  go_wp2_with fail
  refine (writeAllText A3 e3 v.out encT hS r3 hMv.2.2.1.1 (by simp only [List.length_append, List.length_cons, List.length_nil]; omega) (fun y hy => wrText y)).mono ?_
  rintro e w4 ⟨rfl, v4, F4, T4⟩
  clear b1 x1
  replace hS := hS.turn 0 rfl T4
  clear T4
  have b1 := hS.cell 1 rfl
  have x1 := hS.cell 2 rfl
  go_wp2_with fail
  refine (wPut2 v.status v.trap _ _ _ hS rfl (by simp only [List.length_append, List.length_cons, List.length_nil]; omega)).mono ?_
  rintro e w5 ⟨rfl, v5, F5, T5⟩
  clear b1 x1
  replace hS := hS.turn 0 rfl T5
  clear T5
  have b1 := hS.cell 1 rfl
  have x1 := hS.cell 2 rfl
  go_wp2_with fail
  refine (wValueI v.value hS (by simp only [List.length_append, List.length_cons, List.length_nil]; omega)).mono ?_
  rintro e w6 ⟨rfl, v6, F6, T6⟩
  clear b1 x1
  replace hS := hS.turn 0 rfl T6
  clear T6
  have b1 := hS.cell 1 rfl
  have x1 := hS.cell 2 rfl
  go_wp2_with fail
  refine (wPut1 v.steps _ _ _ hS rfl (by simp only [List.length_append, List.length_cons, List.length_nil]; omega)).mono ?_
  rintro e w7 ⟨rfl, v7, F7, T7⟩
  clear b1 x1
  replace hS := hS.turn 0 rfl T7
  clear T7
  have b1 := hS.cell 1 rfl
  have x1 := hS.cell 2 rfl
  have y1 := hS.wrCell
  go_wp2
  go_ret
  have e9 := hS.outWr
  simpa [encVm, List.append_assoc] using e9
theorem writeVmL_no {t : List ByteArray} {l : List DFunc} {v : DVm} (h : vmOkB t l v = false) : writeVmL t l v = [] := by unfold writeVmL; rw [h]; rfl
theorem writeVmL_yes {t : List ByteArray} {l : List DFunc} {v : DVm} (h : vmOkB t l v = true) : writeVmL t l v = encVm v := by unfold writeVmL; rw [h]; rfl
set_option maxHeartbeats 8000000 in
set_option maxRecDepth 100000 in
theorem writeVmI (A B A0 A1 A3 : Option Addr) (c0 d0 e0 e1 e3 : Nat) (t : List ByteArray) (l : List DFunc) (v : DVm) (w : World) (h : HasMod A B t l w) (r0 : kFrame.Row w A0 v.frames.length v.frames) (r1 : kRec.Row w A1 v.heap.length v.heap) (r3 : Knd.str.Row w A3 v.out.length v.out) (hMv : MVm v) (hms : msVm v ≤ 1048576) {X : List Int} (hX : writeVmL t l v = X) :
    Calls Tryz.prog 35 #[.agg #[.slice A t.length c0, .slice B l.length d0], .agg #[.slice A0 v.frames.length e0, .slice A1 v.heap.length e1, .int .i64 v.made, .slice A3 v.out.length e3, .int .i64 v.status, .int .i64 v.trap, .int .i64 v.value.k, .int .i64 v.value.n, .string v.value.s, .int .i64 v.steps]] w (NewRow (Knd.int .i64) 3 X w) := by
  subst hX
  have hS := ((St.start w).made (.cells #[.slice A t.length c0, .slice B l.length d0] 36 (0, 0))).madeAt (.cells #[.slice A0 v.frames.length e0, .slice A1 v.heap.length e1, .int .i64 v.made, .slice A3 v.out.length e3, .int .i64 v.status, .int .i64 v.trap, .int .i64 v.value.k, .int .i64 v.value.n, .string v.value.s, .int .i64 v.steps] 67 (0, 0)) (w.heap.size + 1) (by simp)
  have x_m := hS.cell 1 rfl
  have x_v := hS.cell 0 rfl
  cases hv : vmOkB t l v
  · rw [writeVmL_no hv]
    have HV := Lib.hid hv
    clear hv
    go_enter Tryz.func35, Tryz.ntmps35
    go_wp2_with fail
    refine (vmOkI A B A0 A1 A3 c0 d0 e0 e1 e3 t l v _ (h.below hS.bel) (r0.below hS.bel) (r1.below hS.bel) (r3.below hS.bel) hMv HV.out).mono ?_
    rintro e w1 ⟨rfl, hb⟩
    clear x_m x_v
    replace hS := hS.step hb
    clear hb
    go_wp2
    go_ret
    exact newNil _ _ _ _ hS.bel
  · rw [writeVmL_yes hv]
    have HV := Lib.hid hv
    clear hv
    go_enter Tryz.func35, Tryz.ntmps35
    go_wp2_with fail
    refine (vmOkI A B A0 A1 A3 c0 d0 e0 e1 e3 t l v _ (h.below hS.bel) (r0.below hS.bel) (r1.below hS.bel) (r3.below hS.bel) hMv HV.out).mono ?_
    rintro e w1 ⟨rfl, hb⟩
    clear x_m x_v
    replace hS := hS.step hb
    clear hb
    have x_v := hS.cell 0 rfl
    go_wp2_with fail
    refine (writeVmC A0 A1 A3 e0 e1 e3 v _ (r0.below hS.bel) (r1.below hS.bel) (r3.below hS.bel) hMv hms).mono ?_
    intro e w2 hn
    obtain ⟨u, F, rfl, hS2⟩ := hS.newRow hn
    clear hn x_v
    go_wp2
    go_ret
    exact hS2.outRow 0 rfl
set_option maxHeartbeats 8000000 in
set_option maxRecDepth 100000 in
theorem wValues3 {w0 W : World} {L : List Res} {g : Nat} {v : Value} {xs : List Int} {F : List Nat} (A : Option Addr) (c : Nat) (l : List DValue) (hS : St w0 (Res.wr 141 g 3 v xs F :: L) W) (hr : kValue.Row w0 A l.length l) (hl : l.length ≤ 1048576) (hb : xs.length + (encL encV l).length ≤ 1099511627776) :
    Calls Tryz.prog 101 #[.pointer (some ⟨g, 0, none⟩), .slice A l.length c] W (Wrote w0 W 141 g 3 v xs F (xs ++ encL encV l)) := by
  have eL : (encL encV l).length = 1 + (l.map encV).flatten.length := by unfold encL; rw [List.length_cons]; omega
  have HX := Lib.hid (show (xs ++ [(l.length : Int)]) ++ (l.map encV).flatten = xs ++ encL encV l by rw [List.append_assoc]; rfl)
  go_enter Tryz.func101, Tryz.ntmps101
  go_wp2_with fail
  refine (wPut3 (l.length : Int) hS (by omega)).mono ?_
  rintro e w1 ⟨rfl, v1, F1, T1⟩
  go_wp2
  go_loopw [4] (fun i wr => ∃ (k : Nat) (v2 : Value) (F2 : List Nat), k ≤ l.length ∧ i = .int .i64 k ∧ Tn w0 W (Res.wr 141 g 3 v xs F) (Res.wr 141 g 3 v2 ((xs ++ [(l.length : Int)]) ++ ((l.take k).map encV).flatten) F2) [] wr) (fun i _ => l.length - (intOf i).toNat)
  case atStart => exact ⟨0, v1, F1, by omega, rfl, by simpa using T1⟩
  case round =>
    clear T1
    obtain ⟨k, v2, F2, hk, rfl, hT⟩ := hrel
    by_cases hlt : k < l.length
    rotate_left
    · obtain rfl : k = l.length := by omega
      rw [List.take_length, HX.out] at hT
      go_wp2
      go_end0
      exact ⟨rfl, v2, F2, hT⟩
    obtain ⟨x, hx⟩ := get_exU l k hlt
    have hle := flat_mem_le (enc := encV) hx
    have hb2 : ((xs ++ [(l.length : Int)]) ++ ((l.take k).map encV).flatten).length + (encV x).length ≤ 1099511627776 := by
      rw [List.length_append, List.length_append]
      simp only [List.length_singleton]
      omega
    have HN := Lib.hid (show ((xs ++ [(l.length : Int)]) ++ ((l.take k).map encV).flatten) ++ encV x = (xs ++ [(l.length : Int)]) ++ ((l.take (k + 1)).map encV).flatten by rw [flat_snoc hx, List.append_assoc])
    obtain ⟨ad, rfl, q0, q1, q2⟩ := kValue_at hr k x hx
    have u0 := kept hT.st.bel q0
    have u1 := kept hT.st.bel q1
    have u2 := kept hT.st.bel q2
    clear hx hle q0 q1 q2
    go_wp2_with fail
    refine (wValue3 x (hS.turn 0 rfl hT) hb2).mono ?_
    rintro e w2 ⟨rfl, v3, F3, T3⟩
    rw [HN.out] at T3
    go_wp2
    go_roundw
    case rel => exact ⟨k + 1, v3, F3, by omega, by go_num, hT.turn T3⟩
    case measure => simp [intOf]; omega
set_option maxHeartbeats 8000000 in
set_option maxRecDepth 100000 in
theorem writeVm3 (A B A0 A1 A3 : Option Addr) (c0 d0 e0 e1 e3 : Nat) (t : List ByteArray) (l : List DFunc) (v : DVm) (w : World) (h : HasMod A B t l w) (r0 : kFrame.Row w A0 v.frames.length v.frames) (r1 : kRec.Row w A1 v.heap.length v.heap) (r3 : Knd.str.Row w A3 v.out.length v.out) (hMv : MVm v) (hms : msVm v ≤ 1048576) {X : List Int} (hX : writeVmL t l v = X) :
    Calls Tryz.prog 34 #[.agg #[.slice A t.length c0, .slice B l.length d0], .agg #[.slice A0 v.frames.length e0, .slice A1 v.heap.length e1, .int .i64 v.made, .slice A3 v.out.length e3, .int .i64 v.status, .int .i64 v.trap, .int .i64 v.value.k, .int .i64 v.value.n, .string v.value.s, .int .i64 v.steps]] w (NewRow (Knd.int .i64) 3 X w) := by
  subst hX
  have hS := ((St.start w).made (.cells #[.slice A t.length c0, .slice B l.length d0] 36 (0, 0))).madeAt (.cells #[.slice A0 v.frames.length e0, .slice A1 v.heap.length e1, .int .i64 v.made, .slice A3 v.out.length e3, .int .i64 v.status, .int .i64 v.trap, .int .i64 v.value.k, .int .i64 v.value.n, .string v.value.s, .int .i64 v.steps] 67 (0, 0)) (w.heap.size + 1) (by simp)
  replace hS := (hS.madeAt (.cells #[.slice none 0 0] 141 (0, 0)) (w.heap.size + 1 + 1) (by simp)).mkWr (e := 3)
  have x_m := hS.cell 2 rfl
  have x_v := hS.cell 1 rfl
  have y_w := hS.wrCell
  cases hv : vmOkB t l v
  · rw [writeVmL_no hv]
    have HV := Lib.hid hv
    clear hv
    go_enter Tryz.func34, Tryz.ntmps34
    go_wp2_with fail
    refine (vmOk3 A B A0 A1 A3 c0 d0 e0 e1 e3 t l v _ (h.below hS.bel) (r0.below hS.bel) (r1.below hS.bel) (r3.below hS.bel) hMv HV.out).mono ?_
    rintro e w1 ⟨rfl, hb⟩
    clear x_m x_v y_w
    replace hS := hS.step hb
    clear hb
    have y_w := hS.wrCell
    go_wp2
    go_ret
    exact hS.outWr
  rw [writeVmL_yes hv]
  have HV := Lib.hid hv
  clear hv
  have q1 := encL_len (enc := encF) (ms := msFrame) 4 v.frames (fun x _ => encF_len x)
  have q2 := encL_len (enc := encR) (ms := msRec) 3 v.heap (fun x _ => encR_len x)
  have q3 := encL_len (enc := encT) (ms := ByteArray.size) 1 v.out (fun x _ => by rw [encT_len]; omega)
  have q4 := encV_len v.value
  have hlF := hMv.1.1
  have hlH := hMv.2.1.1
  have hlO := hMv.2.2.1.1
  have hms2 : sumOf msFrame v.frames + sumOf msRec v.heap + sumOf ByteArray.size v.out + v.value.s.size ≤ 1048576 := hms
  go_enter Tryz.func34, Tryz.ntmps34
  go_wp2_with fail
  refine (vmOk3 A B A0 A1 A3 c0 d0 e0 e1 e3 t l v _ (h.below hS.bel) (r0.below hS.bel) (r1.below hS.bel) (r3.below hS.bel) hMv HV.out).mono ?_
  rintro e w0 ⟨rfl, hb⟩
  clear x_m x_v y_w
  replace hS := hS.step hb
  clear hb
  have x_v := hS.cell 1 rfl
  go_wp2_with fail
  refine (wPut3 (v.frames.length : Int) hS (by simp)).mono ?_
  rintro e w1 ⟨rfl, v1, F1, T1⟩
  clear x_v
  replace hS := hS.turn 0 rfl T1
  clear T1
  have x_v := hS.cell 1 rfl
  go_wp2
  clear x_v
  go_loopw [6] (fun i wr => ∃ (k : Nat) (u2 : Value) (F2 : List Nat), k ≤ v.frames.length ∧ i = .int .i64 k ∧ St w (Res.wr 141 (w.heap.size + 1 + 1) 3 u2 (([] ++ [(v.frames.length : Int)]) ++ ((v.frames.take k).map encF).flatten) F2 :: [Res.box (w.heap.size + 1) (.cells #[.slice A0 v.frames.length e0, .slice A1 v.heap.length e1, .int .i64 v.made, .slice A3 v.out.length e3, .int .i64 v.status, .int .i64 v.trap, .int .i64 v.value.k, .int .i64 v.value.n, .string v.value.s, .int .i64 v.steps] 67 (0, 0)), Res.box w.heap.size (.cells #[.slice A t.length c0, .slice B l.length d0] 36 (0, 0))]) wr) (fun i _ => v.frames.length - (intOf i).toNat)
  case atStart => exact ⟨0, _, _, by omega, rfl, by simpa using hS⟩
  case round =>
    clear hS
    obtain ⟨k, u2, F2, hk, rfl, hS⟩ := hrel
    have x_v := hS.cell 1 rfl
    by_cases hlt : k < v.frames.length
    rotate_left
    · obtain rfl : k = v.frames.length := by omega
      rw [List.take_length] at hS
      rw [show ([] ++ [(v.frames.length : Int)]) ++ (v.frames.map encF).flatten = encL encF v.frames from rfl] at hS
      go_wp2_with fail
      refine (wPut3 (v.heap.length : Int) hS (by omega)).mono ?_
      rintro e w2 ⟨rfl, v2, F2, T2⟩
      clear x_v
      replace hS := hS.turn 0 rfl T2
      clear T2
      have x_v := hS.cell 1 rfl
      go_wp2
      clear x_v
      go_loopw [8] (fun i wr => ∃ (k : Nat) (u2 : Value) (F2 : List Nat), k ≤ v.heap.length ∧ i = .int .i64 k ∧ St w (Res.wr 141 (w.heap.size + 1 + 1) 3 u2 ((encL encF v.frames ++ [(v.heap.length : Int)]) ++ ((v.heap.take k).map encR).flatten) F2 :: [Res.box (w.heap.size + 1) (.cells #[.slice A0 v.frames.length e0, .slice A1 v.heap.length e1, .int .i64 v.made, .slice A3 v.out.length e3, .int .i64 v.status, .int .i64 v.trap, .int .i64 v.value.k, .int .i64 v.value.n, .string v.value.s, .int .i64 v.steps] 67 (0, 0)), Res.box w.heap.size (.cells #[.slice A t.length c0, .slice B l.length d0] 36 (0, 0))]) wr) (fun i _ => v.heap.length - (intOf i).toNat)
      case atStart => exact ⟨0, _, _, by omega, rfl, by simpa using hS⟩
      case round =>
        clear hS
        obtain ⟨k, u2, F2, hk, rfl, hS⟩ := hrel
        have x_v := hS.cell 1 rfl
        by_cases hlt : k < v.heap.length
        rotate_left
        · obtain rfl : k = v.heap.length := by omega
          rw [List.take_length] at hS
          rw [show (encL encF v.frames ++ [(v.heap.length : Int)]) ++ (v.heap.map encR).flatten = encL encF v.frames ++ encL encR v.heap by rw [List.append_assoc]; rfl] at hS
          go_wp2_with fail
          refine (wPut3 v.made hS (by rw [List.length_append]; omega)).mono ?_
          rintro e w3 ⟨rfl, v3, F3, T3⟩
          clear x_v
          replace hS := hS.turn 0 rfl T3
          clear T3
          have x_v := hS.cell 1 rfl
          go_wp2_with fail
          refine (wPut3 (v.out.length : Int) hS (by simp only [List.length_append, List.length_cons, List.length_nil]; omega)).mono ?_
          rintro e w4 ⟨rfl, v4, F4, T4⟩
          clear x_v
          replace hS := hS.turn 0 rfl T4
          clear T4
          have x_v := hS.cell 1 rfl
          go_wp2
          clear x_v
          go_loopw [9] (fun i wr => ∃ (k : Nat) (u2 : Value) (F2 : List Nat), k ≤ v.out.length ∧ i = .int .i64 k ∧ St w (Res.wr 141 (w.heap.size + 1 + 1) 3 u2 ((encL encF v.frames ++ encL encR v.heap ++ [v.made] ++ [(v.out.length : Int)]) ++ ((v.out.take k).map encT).flatten) F2 :: [Res.box (w.heap.size + 1) (.cells #[.slice A0 v.frames.length e0, .slice A1 v.heap.length e1, .int .i64 v.made, .slice A3 v.out.length e3, .int .i64 v.status, .int .i64 v.trap, .int .i64 v.value.k, .int .i64 v.value.n, .string v.value.s, .int .i64 v.steps] 67 (0, 0)), Res.box w.heap.size (.cells #[.slice A t.length c0, .slice B l.length d0] 36 (0, 0))]) wr) (fun i _ => v.out.length - (intOf i).toNat)
          case atStart => exact ⟨0, _, _, by omega, rfl, by simpa using hS⟩
          case round =>
            clear hS
            obtain ⟨k, u2, F2, hk, rfl, hS⟩ := hrel
            have x_v := hS.cell 1 rfl
            by_cases hlt : k < v.out.length
            rotate_left
            · obtain rfl : k = v.out.length := by omega
              rw [List.take_length] at hS
              rw [show (encL encF v.frames ++ encL encR v.heap ++ [v.made] ++ [(v.out.length : Int)]) ++ (v.out.map encT).flatten = encL encF v.frames ++ encL encR v.heap ++ [v.made] ++ encL encT v.out by rw [List.append_assoc]; rfl] at hS
              go_wp2_with fail
              refine (wPut3 v.status hS (by simp only [List.length_append, List.length_cons, List.length_nil]; omega)).mono ?_
              rintro e w5 ⟨rfl, v5, F5, T5⟩
              clear x_v
              replace hS := hS.turn 0 rfl T5
              clear T5
              have x_v := hS.cell 1 rfl
              go_wp2_with fail
              refine (wPut3 v.trap hS (by simp only [List.length_append, List.length_cons, List.length_nil]; omega)).mono ?_
              rintro e w6 ⟨rfl, v6, F6, T6⟩
              clear x_v
              replace hS := hS.turn 0 rfl T6
              clear T6
              have x_v := hS.cell 1 rfl
              go_wp2_with fail
              refine (wValue3 v.value hS (by simp only [List.length_append, List.length_cons, List.length_nil]; omega)).mono ?_
              rintro e w7 ⟨rfl, v7, F7, T7⟩
              clear x_v
              replace hS := hS.turn 0 rfl T7
              clear T7
              have x_v := hS.cell 1 rfl
              go_wp2_with fail
              refine (wPut3 v.steps hS (by simp only [List.length_append, List.length_cons, List.length_nil]; omega)).mono ?_
              rintro e w8 ⟨rfl, v8, F8, T8⟩
              clear x_v
              replace hS := hS.turn 0 rfl T8
              clear T8
              have x_v := hS.cell 1 rfl
              have y1 := hS.wrCell
              clear x_v
              go_wp2
              go_ret
              have e9 := hS.outWr
              simpa [encVm, List.append_assoc] using e9
            obtain ⟨x, hx⟩ := get_exU v.out k hlt
            have hle := flat_mem_le (enc := encT) hx
            have HN := Lib.hid (show ((encL encF v.frames ++ encL encR v.heap ++ [v.made] ++ [(v.out.length : Int)]) ++ ((v.out.take k).map encT).flatten) ++ encT x = (encL encF v.frames ++ encL encR v.heap ++ [v.made] ++ [(v.out.length : Int)]) ++ ((v.out.take (k + 1)).map encT).flatten by rw [flat_snoc hx, List.append_assoc])
            obtain ⟨ad, rfl, q0⟩ := r3.one k x hx
            have u0 := kept hS.bel q0
            have q3'' : ((v.out.map encT).flatten).length ≤ 4194304 := by have := eFlat_len (enc := encT) (ms := ByteArray.size) 1 v.out (fun x _ => by rw [encT_len]; omega); omega
            clear hx q0
            go_wp2_with fail
            refine (wText3 x hS (by simp only [List.length_append, List.length_cons, List.length_nil]; omega)).mono ?_
            rintro e w40 ⟨rfl, y0, G0, T0⟩
            clear x_v
            replace hS := hS.turn 0 rfl T0
            clear T0
            go_wp2
            go_roundw
            case rel =>
              exact ⟨k + 1, y0, G0, by omega, by go_num, by rw [← HN.out]; exact hS⟩
            case measure => simp [intOf]; omega
        obtain ⟨x, hx⟩ := get_exU v.heap k hlt
        have hle := flat_mem_le (enc := encR) hx
        have HN := Lib.hid (show ((encL encF v.frames ++ [(v.heap.length : Int)]) ++ ((v.heap.take k).map encR).flatten) ++ encR x = (encL encF v.frames ++ [(v.heap.length : Int)]) ++ ((v.heap.take (k + 1)).map encR).flatten by rw [flat_snoc hx, List.append_assoc])
        obtain ⟨ad, A6, c6, rfl, q0, _, r6⟩ := kRec_at r1 k x hx
        have hMx := hMv.2.1.2 x (List.mem_of_getElem? hx)
        have u0 := kept hS.bel q0
        rw [Nat.mul_one] at u0
        have q2'' : ((v.heap.map encR).flatten).length ≤ 4194304 := by have := eFlat_len (enc := encR) (ms := msRec) 3 v.heap (fun x _ => encR_len x); omega
        have hRx : (encR x).length = (encL encV x.fields).length := rfl
        clear hx q0
        go_wp2_with fail
        refine (wValues3 A6 c6 x.fields hS r6 hMx.1 (by simp only [List.length_append, List.length_cons, List.length_nil]; omega)).mono ?_
        rintro e w30 ⟨rfl, y0, G0, T0⟩
        clear x_v
        replace hS := hS.turn 0 rfl T0
        clear T0
        go_wp2
        go_roundw
        case rel =>
          exact ⟨k + 1, y0, G0, by omega, by go_num, by rw [← HN.out]; exact hS⟩
        case measure => simp [intOf]; omega
    obtain ⟨x, hx⟩ := get_exU v.frames k hlt
    have hle := flat_mem_le (enc := encF) hx
    have HN := Lib.hid (show (([] ++ [(v.frames.length : Int)]) ++ ((v.frames.take k).map encF).flatten) ++ encF x = ([] ++ [(v.frames.length : Int)]) ++ ((v.frames.take (k + 1)).map encF).flatten by rw [flat_snoc hx, List.append_assoc])
    obtain ⟨ad, A2, A3, c2, c3, rfl, q0, q1', q2', q3', hc2, r2, hc3, r4⟩ := kFrame_at r0 k x hx
    have hMx := hMv.1.2 x (List.mem_of_getElem? hx)
    have u0 := kept hS.bel q0
    have u1 := kept hS.bel q1'
    have u2' := kept hS.bel q2'
    have u3 := kept hS.bel q3'
    have hFx : (encF x).length = 2 + (encL encV x.locals).length + (encL encV x.stack).length := by unfold encF; simp only [List.length_cons, List.length_append]; omega
    have q1'' : ((v.frames.map encF).flatten).length ≤ 4194304 := by have := eFlat_len (enc := encF) (ms := msFrame) 4 v.frames (fun x _ => encF_len x); omega
    clear hx q0 q1' q2' q3'
    replace hS := (hS.made (.cells #[.int .i64 x.fn, .int .i64 x.pc, .slice A2 x.locals.length c2, .slice A3 x.stack.length c3] 145 (0, 0))).second
    go_wp2_with fail
    refine (wPut3 x.fn hS (by simp only [List.length_append, List.length_cons, List.length_nil]; omega)).mono ?_
    rintro e w20 ⟨rfl, y0, G0, T0⟩
    clear x_v
    replace hS := hS.turn 0 rfl T0
    clear T0
    have x_f := hS.cell 1 rfl
    go_wp2_with fail
    refine (wPut3 x.pc hS (by simp only [List.length_append, List.length_cons, List.length_nil]; omega)).mono ?_
    rintro e w21 ⟨rfl, y1, G1, T1⟩
    clear x_f
    replace hS := hS.turn 0 rfl T1
    clear T1
    have x_f := hS.cell 1 rfl
    go_wp2_with fail
    refine (wValues3 A2 c2 x.locals hS r2 hMx.1.1 (by simp only [List.length_append, List.length_cons, List.length_nil]; omega)).mono ?_
    rintro e w22 ⟨rfl, y2, G2, T2⟩
    clear x_f
    replace hS := hS.turn 0 rfl T2
    clear T2
    have x_f := hS.cell 1 rfl
    go_wp2_with fail
    refine (wValues3 A3 c3 x.stack hS r4 hMx.2.1 (by simp only [List.length_append, List.length_cons, List.length_nil]; omega)).mono ?_
    rintro e w23 ⟨rfl, y3, G3, T3⟩
    clear x_f
    replace hS := hS.turn 0 rfl T3
    clear T3
    have x_f := hS.cell 1 rfl
    go_wp2
    go_roundw
    case rel =>
      have e9 := (hS.front 1 rfl).drop
      exact ⟨k + 1, y3, G3, by omega, by go_num, by rw [← HN.out]; simpa [encF, List.append_assoc] using e9⟩
    case measure => simp [intOf]; omega
end Go.Proofs.YthinhlcfpaaldaaGreat.Dat
