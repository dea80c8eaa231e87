/- Code written as numbers: the program's way. Written by a program (wrfgen.py). -/
import Derived.Test.YthinhlcfpaaldaaGreatWrB
import Derived.Test.YthinhlcfpaaldaaGreatWrU
namespace Go.Proofs.YthinhlcfpaaldaaGreat.Dat
open Go Go.RowKit Go.Proofs.YthinhlcfpaaldaaGreat.Mem
set_option linter.unusedVariables false
set_option linter.unusedSimpArgs false
theorem wPut4 {w0 W : World} {L : List Res} {g : Nat} {v : Value} {xs : List Int} {F : List Nat} (z0 z1 z2 z3 : Int) (B c : Nat) (t' : TypeId) (hS : St w0 (Res.wr 240 g 3 v xs F :: L) W) (hg : W.heap.size = B) (hb : xs.length + 4 ≤ 1099511627776) :
    Calls Tryz.prog 172 #[.pointer (some ⟨g, 0, none⟩), .slice (some ⟨B, 0, none⟩) 4 c] (W.alloc (.cells #[.int .i64 z0, .int .i64 z1, .int .i64 z2, .int .i64 z3] t' (0, 0))) fun e W' => e = .returned (.tuple #[]) ∧ ∃ v' F', Tn w0 W (Res.wr 240 g 3 v xs F) (Res.wr 240 g 3 v' (xs ++ [z0, z1, z2, z3]) F') [] W' := by
  subst hg
  refine (wPutN [z0, z1, z2, z3] W.heap.size c t' (0, 0) (hS.al _) (blk_new _ _) 4 rfl (by simp) (by simpa using hb)).mono ?_
  rintro e W' ⟨rfl, v', F', T⟩
  exact ⟨rfl, v', F', ((Tn.of hS 0 rfl).al _).turn T⟩
theorem wPut5 {w0 W : World} {L : List Res} {g : Nat} {v : Value} {xs : List Int} {F : List Nat} (z0 z1 z2 z3 z4 : Int) (B c : Nat) (t' : TypeId) (hS : St w0 (Res.wr 240 g 3 v xs F :: L) W) (hg : W.heap.size = B) (hb : xs.length + 5 ≤ 1099511627776) :
    Calls Tryz.prog 172 #[.pointer (some ⟨g, 0, none⟩), .slice (some ⟨B, 0, none⟩) 5 c] (W.alloc (.cells #[.int .i64 z0, .int .i64 z1, .int .i64 z2, .int .i64 z3, .int .i64 z4] t' (0, 0))) fun e W' => e = .returned (.tuple #[]) ∧ ∃ v' F', Tn w0 W (Res.wr 240 g 3 v xs F) (Res.wr 240 g 3 v' (xs ++ [z0, z1, z2, z3, z4]) F') [] W' := by
  subst hg
  refine (wPutN [z0, z1, z2, z3, z4] W.heap.size c t' (0, 0) (hS.al _) (blk_new _ _) 5 rfl (by simp) (by simpa using hb)).mono ?_
  rintro e W' ⟨rfl, v', F', T⟩
  exact ⟨rfl, v', F', ((Tn.of hS 0 rfl).al _).turn T⟩
theorem wPut7 {w0 W : World} {L : List Res} {g : Nat} {v : Value} {xs : List Int} {F : List Nat} (z0 z1 z2 z3 z4 z5 z6 : Int) (B c : Nat) (t' : TypeId) (hS : St w0 (Res.wr 240 g 3 v xs F :: L) W) (hg : W.heap.size = B) (hb : xs.length + 7 ≤ 1099511627776) :
    Calls Tryz.prog 172 #[.pointer (some ⟨g, 0, none⟩), .slice (some ⟨B, 0, none⟩) 7 c] (W.alloc (.cells #[.int .i64 z0, .int .i64 z1, .int .i64 z2, .int .i64 z3, .int .i64 z4, .int .i64 z5, .int .i64 z6] t' (0, 0))) fun e W' => e = .returned (.tuple #[]) ∧ ∃ v' F', Tn w0 W (Res.wr 240 g 3 v xs F) (Res.wr 240 g 3 v' (xs ++ [z0, z1, z2, z3, z4, z5, z6]) F') [] W' := by
  subst hg
  refine (wPutN [z0, z1, z2, z3, z4, z5, z6] W.heap.size c t' (0, 0) (hS.al _) (blk_new _ _) 7 rfl (by simp) (by simpa using hb)).mono ?_
  rintro e W' ⟨rfl, v', F', T⟩
  exact ⟨rfl, v', F', ((Tn.of hS 0 rfl).al _).turn T⟩
set_option maxHeartbeats 8000000 in
set_option maxRecDepth 100000 in
theorem wSrcI {w0 W : World} {L : List Res} {g : Nat} {v : Value} {xs : List Int} {F : List Nat} (x : DSrc) (hS : St w0 (Res.wr 240 g 3 v xs F :: L) W) (hb : xs.length + (encSrc x).length ≤ 1099511627776) :
    Calls Tryz.prog 202 #[.pointer (some ⟨g, 0, none⟩), .agg #[.int .i64 x.kind, .int .i64 x.n, .int .i64 x.v.k, .int .i64 x.v.n, .string x.v.s]] W (Wrote w0 W 240 g 3 v xs F (xs ++ encSrc x)) := by
  have hl : (encSrc x).length = 2 + (encV x.v).length := by unfold encSrc; rw [List.length_cons, List.length_cons]; omega
  have HX := Lib.hid (show (xs ++ [x.kind, x.n]) ++ encV x.v = xs ++ encSrc x by rw [List.append_assoc]; rfl)
  have S1 := (hS.made (.cells #[.int .i64 x.kind, .int .i64 x.n, .int .i64 x.v.k, .int .i64 x.v.n, .string x.v.s] 269 (0, 0))).second
  go_enter Tryz.func202, Tryz.ntmps202
  go_wp2_with fail
  refine (wPut2 x.kind x.n _ _ _ S1 (by simp) (by omega)).mono ?_
  rintro e w1 ⟨rfl, v1, F1, T1⟩
  have S3 := S1.turn 0 rfl T1
  have x3 := S3.cell 1 rfl
  have T2 := ((Tn.of hS 0 rfl).al (.cells #[.int .i64 x.kind, .int .i64 x.n, .int .i64 x.v.k, .int .i64 x.v.n, .string x.v.s] 269 (0, 0))).turn T1
  go_wp2_with fail
  refine (wValueI x.v S3 (by rw [List.length_append]; simp; omega)).mono ?_
  rintro e w2 ⟨rfl, v2, F2, T3⟩
  rw [HX.out] at T3
  go_wp2
  go_end0
  exact ⟨rfl, v2, F2, T2.turn T3⟩
theorem wrSrc {w0 : World} {L : List Res} {g : Nat} (x : DSrc) : WrSrc w0 L g encSrc x := fun W' v' ys F' hS hb => wSrcI x hS hb
set_option maxHeartbeats 8000000 in
set_option maxRecDepth 100000 in
theorem wrFOp {w0 : World} {L : List Res} {g bx : Nat} (x : DFOp) (hM : MFOp x) : WrFOp w0 (Res.box bx (.cells #[.pointer (some ⟨g, 0, none⟩)] 238 (0, 0)) :: L) g bx encO x := by
  intro W' v0 ys F0 hS hb 
  have S1 := (hS.made (.cells #[.int .i64 x.op, .int .i64 x.d, .int .i64 x.a, .int .i64 x.b, .int .i64 x.x, .int .i64 x.f, .int .i64 x.p, .int .i64 x.v.k, .int .i64 x.v.n, .string x.v.s] 164 (0, 0))).second
  have T1 := (Tn.of hS 0 rfl).al (.cells #[.int .i64 x.op, .int .i64 x.d, .int .i64 x.a, .int .i64 x.b, .int .i64 x.x, .int .i64 x.f, .int .i64 x.p, .int .i64 x.v.k, .int .i64 x.v.n, .string x.v.s] 164 (0, 0))
  have b1 := S1.cell 2 rfl
  have x1 := S1.cell 1 rfl
  have hb' := hb
  unfold encO at hb'
  (try simp only [List.length_cons, List.length_append] at hb')
  go_enter Tryz.func196, Tryz.ntmps196
  go_wp2_with fail
  refine (wPut7 x.op x.d x.a x.b x.x x.f x.p _ _ _ S1 (by simp) (by omega)).mono ?_
  rintro e w1 ⟨rfl, v1, F1, Q1⟩
  clear b1 x1
  have S2 := S1.turn 0 rfl Q1
  have T2 := T1.turn Q1
  have b1 := S2.cell 2 rfl
  have x1 := S2.cell 1 rfl
  go_wp2_with fail
  refine (wValueI x.v S2 (by (try simp only [List.length_append, List.length_cons, List.length_nil]); omega)).mono ?_
  rintro e w2 ⟨rfl, v2, F2, Q2⟩
  clear b1 x1
  have S3 := S2.turn 0 rfl Q2
  have T3 := T2.turn Q2
  rw [show (ys ++ [x.op, x.d, x.a, x.b, x.x, x.f, x.p]) ++ encV x.v = ys ++ encO x by simp [encO]] at T3
  go_wp2
  go_end0
  exact ⟨rfl, _, _, T3⟩
set_option maxHeartbeats 8000000 in
set_option maxRecDepth 100000 in
theorem wrExFrame {w0 : World} {L : List Res} {g bx : Nat} (x : DExFrame) (hM : MExFrame x) : WrExFrame w0 (Res.box bx (.cells #[.pointer (some ⟨g, 0, none⟩)] 238 (0, 0)) :: L) g bx encXF x := by
  intro W' v0 ys F0 hS hb A2 A3 c2 c3 r2 r3
  have S1 := (hS.made (.cells #[.int .i64 x.fn, .int .i64 x.pc, .slice A2 x.locals.length c2, .slice A3 x.stack.length c3] 171 (0, 0))).second
  have T1 := (Tn.of hS 0 rfl).al (.cells #[.int .i64 x.fn, .int .i64 x.pc, .slice A2 x.locals.length c2, .slice A3 x.stack.length c3] 171 (0, 0))
  have b1 := S1.cell 2 rfl
  have x1 := S1.cell 1 rfl
  have hb' := hb
  unfold encXF at hb'
  (try simp only [List.length_cons, List.length_append] at hb')
  go_enter Tryz.func200, Tryz.ntmps200
  go_wp2_with fail
  refine (wPut2 x.fn x.pc _ _ _ S1 (by simp) (by omega)).mono ?_
  rintro e w1 ⟨rfl, v1, F1, Q1⟩
  clear b1 x1
  have S2 := S1.turn 0 rfl Q1
  have T2 := T1.turn Q1
  have b1 := S2.cell 2 rfl
  have x1 := S2.cell 1 rfl
  go_wp2_with fail
  refine (writeAllSrc A2 c2 x.locals encSrc S2 r2 hM.1.1 (by (try simp only [List.length_append, List.length_cons, List.length_nil]); omega) (fun y _ => wrSrc y)).mono ?_
  rintro e w2 ⟨rfl, v2, F2, Q2⟩
  clear b1 x1
  have S3 := S2.turn 0 rfl Q2
  have T3 := T2.turn Q2
  have b1 := S3.cell 2 rfl
  have x1 := S3.cell 1 rfl
  go_wp2_with fail
  refine (writeAllSrc A3 c3 x.stack encSrc S3 r3 hM.2.1 (by (try simp only [List.length_append, List.length_cons, List.length_nil]); omega) (fun y _ => wrSrc y)).mono ?_
  rintro e w3 ⟨rfl, v3, F3, Q3⟩
  clear b1 x1
  have S4 := S3.turn 0 rfl Q3
  have T4 := T3.turn Q3
  rw [show ((ys ++ [x.fn, x.pc]) ++ encL encSrc x.locals) ++ encL encSrc x.stack = ys ++ encXF x by simp [encXF]] at T4
  go_wp2
  go_end0
  exact ⟨rfl, _, _, T4⟩
set_option maxHeartbeats 8000000 in
set_option maxRecDepth 100000 in
theorem wrExRec {w0 : World} {L : List Res} {g bx : Nat} (x : DExRec) (hM : MExRec x) : WrExRec w0 (Res.box bx (.cells #[.pointer (some ⟨g, 0, none⟩)] 238 (0, 0)) :: L) g bx encXR x := by
  intro W' v0 ys F0 hS hb A0 c0 r0
  have S1 := (hS.made (.cells #[.slice A0 x.fields.length c0] 174 (0, 0))).second
  have T1 := (Tn.of hS 0 rfl).al (.cells #[.slice A0 x.fields.length c0] 174 (0, 0))
  have b1 := S1.cell 2 rfl
  have x1 := S1.cell 1 rfl
  have hb' := hb
  unfold encXR at hb'
  (try simp only [List.length_cons, List.length_append] at hb')
  go_enter Tryz.func204, Tryz.ntmps204
  go_wp2_with fail
  refine (writeAllSrc A0 c0 x.fields encSrc S1 r0 hM.1 (by (try simp only [List.length_append, List.length_cons, List.length_nil]); omega) (fun y _ => wrSrc y)).mono ?_
  rintro e w1 ⟨rfl, v1, F1, Q1⟩
  clear b1 x1
  have S2 := S1.turn 0 rfl Q1
  have T2 := T1.turn Q1
  rw [show ys ++ encL encSrc x.fields = ys ++ encXR x by rfl] at T2
  go_wp2
  go_end0
  exact ⟨rfl, _, _, T2⟩
set_option maxHeartbeats 8000000 in
set_option maxRecDepth 100000 in
theorem wrExit {w0 : World} {L : List Res} {g bx : Nat} (x : DExit) (hM : MExit x) : WrExit w0 (Res.box bx (.cells #[.pointer (some ⟨g, 0, none⟩)] 238 (0, 0)) :: L) g bx encX x := by
  intro W' v0 ys F0 hS hb A5 A6 c5 c6 r5 r6
  have S1 := (hS.made (.cells #[.int .i64 x.kind, .int .i64 x.spec.fn, .int .i64 x.spec.pc, .int .i64 x.spec.kind, .int .i64 x.spec.target, .slice A5 x.frames.length c5, .slice A6 x.recs.length c6] 168 (0, 0))).second
  have T1 := (Tn.of hS 0 rfl).al (.cells #[.int .i64 x.kind, .int .i64 x.spec.fn, .int .i64 x.spec.pc, .int .i64 x.spec.kind, .int .i64 x.spec.target, .slice A5 x.frames.length c5, .slice A6 x.recs.length c6] 168 (0, 0))
  have b1 := S1.cell 2 rfl
  have x1 := S1.cell 1 rfl
  have hb' := hb
  unfold encX at hb'
  (try simp only [List.length_cons, List.length_append] at hb')
  go_enter Tryz.func198, Tryz.ntmps198
  go_wp2_with fail
  refine (wPut5 x.kind x.spec.fn x.spec.pc x.spec.kind x.spec.target _ _ _ S1 (by simp) (by omega)).mono ?_
  rintro e w1 ⟨rfl, v1, F1, Q1⟩
  clear b1 x1
  have S2 := S1.turn 0 rfl Q1
  have T2 := T1.turn Q1
  have b1 := S2.cell 2 rfl
  have x1 := S2.cell 1 rfl
  go_wp2_with fail
  refine (writeAllExFrame (bx := bx) A5 c5 x.frames encXF (S2.third) r5 hM.1.1 (by (try simp only [List.length_append, List.length_cons, List.length_nil]); omega) (fun y hy => wrExFrame y (hM.1.2 y hy))).mono ?_
  rintro e w2 ⟨rfl, v2, F2, Q2⟩
  clear b1 x1
  have S3 := S2.turn 0 rfl Q2
  have T3 := T2.turn Q2
  have b1 := S3.cell 2 rfl
  have x1 := S3.cell 1 rfl
  go_wp2_with fail
  refine (writeAllExRec (bx := bx) A6 c6 x.recs encXR (S3.third) r6 hM.2.1 (by (try simp only [List.length_append, List.length_cons, List.length_nil]); omega) (fun y hy => wrExRec y (hM.2.2 y hy))).mono ?_
  rintro e w3 ⟨rfl, v3, F3, Q3⟩
  clear b1 x1
  have S4 := S3.turn 0 rfl Q3
  have T4 := T3.turn Q3
  rw [show ((ys ++ [x.kind, x.spec.fn, x.spec.pc, x.spec.kind, x.spec.target]) ++ encL encXF x.frames) ++ encL encXR x.recs = ys ++ encX x by simp [encX]] at T4
  go_wp2
  go_end0
  exact ⟨rfl, _, _, T4⟩
set_option maxHeartbeats 8000000 in
set_option maxRecDepth 100000 in
theorem writeFastC (A4 A5 : Option Addr) (c4 c5 : Nat) (c : DFast) (w : World) (r4 : kFOp.Row w A4 c.ops.length c.ops) (r5 : kExit.Row w A5 c.exits.length c.exits) (hM : MFast c) (hms : msFast c ≤ 1048576) :
    Calls Tryz.prog 120 #[.agg #[.int .i64 c.fn, .int .i64 c.entry, .int .i64 c.vals, .int .i64 c.nums, .slice A4 c.ops.length c4, .slice A5 c.exits.length c5]] w (NewRow (Knd.int .i64) 3 (encFast c) w) := by
  have q1 := encL_len (enc := encO) (ms := msFOp) 10 c.ops (fun x _ => encO_len x)
  have q2 := encL_len (enc := encX) (ms := msExit) 7 c.exits (fun x _ => encX_len x)
  have hms2 : sumOf msFOp c.ops + sumOf msExit c.exits ≤ 1048576 := hms
  have hlO := hM.1.1
  have hlX := hM.2.1
  have hV := (St.start w).made (.cells #[.int .i64 c.fn, .int .i64 c.entry, .int .i64 c.vals, .int .i64 c.nums, .slice A4 c.ops.length c4, .slice A5 c.exits.length c5] 41 (0, 0))
  have hS := ((hV.madeAt (.cells #[.slice none 0 0] 240 (0, 0)) (w.heap.size + 1) (by simp)).mkWr (e := 3))
  replace hS := (hS.madeAt (.cells #[.pointer (some ⟨w.heap.size + 1, 0, none⟩)] 238 (0, 0)) (w.heap.size + 1 + 1) (by simp)).second
  clear hV
  have b1 := hS.cell 1 rfl
  have x1 := hS.cell 2 rfl
  go_enter Tryz.func120, Tryz.ntmps120
  go_wp2_with fail
  refine (wPut4 c.fn c.entry c.vals c.nums _ _ _ hS (by simp) (by (try simp only [List.length_append, List.length_cons, List.length_nil]); omega)).mono ?_
  rintro e w1 ⟨rfl, v1, F1, T1⟩
  clear b1 x1
  replace hS := hS.turn 0 rfl T1
  clear T1
  have b1 := hS.cell 1 rfl
  have x1 := hS.cell 2 rfl
  go_wp2_with fail
  refine (writeAllFOp (bx := w.heap.size + 1 + 1) A4 c4 c.ops encO hS r4 hM.1.1 (by (try simp only [List.length_append, List.length_cons, List.length_nil]); omega) (fun y hy => wrFOp y (hM.1.2 y hy))).mono ?_
  rintro e w2 ⟨rfl, v2, F2, T2⟩
  clear b1 x1
  replace hS := hS.turn 0 rfl T2
  clear T2
  have b1 := hS.cell 1 rfl
  have x1 := hS.cell 2 rfl
  go_wp2_with fail
  refine (writeAllExit (bx := w.heap.size + 1 + 1) A5 c5 c.exits encX hS r5 hM.2.1 (by (try simp only [List.length_append, List.length_cons, List.length_nil]); omega) (fun y hy => wrExit y (hM.2.2 y hy))).mono ?_
  rintro e w3 ⟨rfl, v3, F3, T3⟩
  clear b1 x1
  replace hS := hS.turn 0 rfl T3
  clear T3
  have b1 := hS.cell 1 rfl
  have x1 := hS.cell 2 rfl
  have y1 := hS.wrCell
  go_wp2
  go_ret
  have e9 := hS.outWr
  simpa [encFast, List.append_assoc] using e9
end Go.Proofs.YthinhlcfpaaldaaGreat.Dat
