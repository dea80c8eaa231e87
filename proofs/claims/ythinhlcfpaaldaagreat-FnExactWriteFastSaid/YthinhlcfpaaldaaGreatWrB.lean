/- Rows written element by element through a closure. Written by a program (wrgen.py). -/
import Derived.Test.YthinhlcfpaaldaaGreatWrI
import Derived.Test.YthinhlcfpaaldaaGreatWrQ
namespace Go.Proofs.YthinhlcfpaaldaaGreat.Dat
open Go Go.RowKit Go.Proofs.YthinhlcfpaaldaaGreat.Mem
set_option linter.unusedVariables false
set_option linter.unusedSimpArgs false
/-- What is asked of the closure. -/
def WrFOp (w0 : World) (L : List Res) (g : Nat) (bx : Nat) (enc : DFOp → List Int) (x : DFOp) : Prop := ∀ (W' : World) (v' : Value) (ys : List Int) (F' : List Nat), St w0 (Res.wr 240 g 3 v' ys F' :: L) W' → ys.length + (enc x).length ≤ 1099511627776 → Calls Tryz.prog 196 #[.agg #[.int .i64 x.op, .int .i64 x.d, .int .i64 x.a, .int .i64 x.b, .int .i64 x.x, .int .i64 x.f, .int .i64 x.p, .int .i64 x.v.k, .int .i64 x.v.n, .string x.v.s], .pointer (some ⟨bx, 0, none⟩)] W' (Wrote w0 W' 240 g 3 v' ys F' (ys ++ enc x))
set_option maxHeartbeats 4000000 in
set_option maxRecDepth 100000 in
theorem writeAllFOp {w0 W : World} {L : List Res} {g : Nat} (bx : Nat) {v : Value} {xs : List Int} {F : List Nat} (A : Option Addr) (c : Nat) (l : List DFOp) (enc : DFOp → List Int) (hS : St w0 (Res.wr 240 g 3 v xs F :: L) W) (hr : kFOp.Row w0 A l.length l) (hl : l.length ≤ 1048576) (hb : xs.length + (encL enc l).length ≤ 1099511627776) (hone : ∀ x ∈ l, WrFOp w0 L g bx enc x) :
    Calls Tryz.prog 195 #[.pointer (some ⟨g, 0, none⟩), .slice A l.length c, .func (.func 196) #[] #[.pointer (some ⟨bx, 0, none⟩)]] W (Wrote w0 W 240 g 3 v xs F (xs ++ encL enc l)) := by
  have eL : (encL enc l).length = 1 + (l.map enc).flatten.length := by unfold encL; rw [List.length_cons]; omega
  have HX := Lib.hid (show (xs ++ [(l.length : Int)]) ++ (l.map enc).flatten = xs ++ encL enc l by rw [List.append_assoc]; rfl)
  go_enter Tryz.func195, Tryz.ntmps195
  go_wp2_with fail
  refine (wPut1 (l.length : Int) _ _ _ hS rfl (by omega)).mono ?_
  rintro e w1 ⟨rfl, v1, F1, T1⟩
  go_wp2
  go_loopw [15] (fun i wr => ∃ (k : Nat) (v2 : Value) (F2 : List Nat), k ≤ l.length ∧ i = .int .i64 k ∧ Tn w0 W (Res.wr 240 g 3 v xs F) (Res.wr 240 g 3 v2 ((xs ++ [(l.length : Int)]) ++ ((l.take k).map enc).flatten) F2) [] wr) (fun i _ => l.length - (intOf i).toNat)
  case atStart => exact ⟨0, v1, F1, by omega, rfl, by simpa using T1⟩
  case round =>
    clear T1
    obtain ⟨k, v2, F2, hk, rfl, hT⟩ := hrel
    by_cases hlt : k < l.length
    rotate_left
    · obtain rfl : k = l.length := by omega
      rw [List.take_length, HX.out] at hT
      go_wp2
      go_end0
      exact ⟨rfl, v2, F2, hT⟩
    obtain ⟨x, hx⟩ := get_exU l k hlt
    have hle := flat_mem_le (enc := enc) hx
    have hb2 : ((xs ++ [(l.length : Int)]) ++ ((l.take k).map enc).flatten).length + (enc x).length ≤ 1099511627776 := by
      rw [List.length_append, List.length_append]
      simp only [List.length_singleton]
      omega
    have HN := Lib.hid (show ((xs ++ [(l.length : Int)]) ++ ((l.take k).map enc).flatten) ++ enc x = (xs ++ [(l.length : Int)]) ++ ((l.take (k + 1)).map enc).flatten by rw [flat_snoc hx, List.append_assoc])
    obtain ⟨ad, rfl, q0, q1, q2, q3, q4, q5, q6, q7, q8, q9⟩ := kFOp_at hr k x hx
    have u0 := kept hT.st.bel q0
    have u1 := kept hT.st.bel q1
    have u2 := kept hT.st.bel q2
    have u3 := kept hT.st.bel q3
    have u4 := kept hT.st.bel q4
    have u5 := kept hT.st.bel q5
    have u6 := kept hT.st.bel q6
    have u7 := kept hT.st.bel q7
    have u8 := kept hT.st.bel q8
    have u9 := kept hT.st.bel q9
    have hx' := List.mem_of_getElem? hx
    have HO := Lib.hid (hone x hx')
    clear hx hx' hle q0 q1 q2 q3 q4 q5 q6 q7 q8 q9
    go_wp2_with fail
    refine (HO.out _ _ _ _ ((hS.turn 0 rfl hT).al (.cells #[.int .i64 x.op, .int .i64 x.d, .int .i64 x.a, .int .i64 x.b, .int .i64 x.x, .int .i64 x.f, .int .i64 x.p, .int .i64 x.v.k, .int .i64 x.v.n, .string x.v.s] 164 (0, 0))) hb2).mono ?_
    rintro e w2 ⟨rfl, v3, F3, T3⟩
    rw [HN.out] at T3
    go_wp2
    go_roundw
    case rel => exact ⟨k + 1, v3, F3, by omega, by go_num, (hT.al _).turn T3⟩
    case measure => simp [intOf]; omega
/-- What is asked of the closure. -/
def WrSrc (w0 : World) (L : List Res) (g : Nat) (enc : DSrc → List Int) (x : DSrc) : Prop := ∀ (W' : World) (v' : Value) (ys : List Int) (F' : List Nat), St w0 (Res.wr 240 g 3 v' ys F' :: L) W' → ys.length + (enc x).length ≤ 1099511627776 → Calls Tryz.prog 202 #[.pointer (some ⟨g, 0, none⟩), .agg #[.int .i64 x.kind, .int .i64 x.n, .int .i64 x.v.k, .int .i64 x.v.n, .string x.v.s]] W' (Wrote w0 W' 240 g 3 v' ys F' (ys ++ enc x))
set_option maxHeartbeats 4000000 in
set_option maxRecDepth 100000 in
theorem writeAllSrc {w0 W : World} {L : List Res} {g : Nat} {v : Value} {xs : List Int} {F : List Nat} (A : Option Addr) (c : Nat) (l : List DSrc) (enc : DSrc → List Int) (hS : St w0 (Res.wr 240 g 3 v xs F :: L) W) (hr : kSrc.Row w0 A l.length l) (hl : l.length ≤ 1048576) (hb : xs.length + (encL enc l).length ≤ 1099511627776) (hone : ∀ x ∈ l, WrSrc w0 L g enc x) :
    Calls Tryz.prog 201 #[.pointer (some ⟨g, 0, none⟩), .slice A l.length c, .func (.func 202) #[.pointer (some ⟨g, 0, none⟩)] #[]] W (Wrote w0 W 240 g 3 v xs F (xs ++ encL enc l)) := by
  have eL : (encL enc l).length = 1 + (l.map enc).flatten.length := by unfold encL; rw [List.length_cons]; omega
  have HX := Lib.hid (show (xs ++ [(l.length : Int)]) ++ (l.map enc).flatten = xs ++ encL enc l by rw [List.append_assoc]; rfl)
  go_enter Tryz.func201, Tryz.ntmps201
  go_wp2_with fail
  refine (wPut1 (l.length : Int) _ _ _ hS rfl (by omega)).mono ?_
  rintro e w1 ⟨rfl, v1, F1, T1⟩
  go_wp2
  go_loopw [15] (fun i wr => ∃ (k : Nat) (v2 : Value) (F2 : List Nat), k ≤ l.length ∧ i = .int .i64 k ∧ Tn w0 W (Res.wr 240 g 3 v xs F) (Res.wr 240 g 3 v2 ((xs ++ [(l.length : Int)]) ++ ((l.take k).map enc).flatten) F2) [] wr) (fun i _ => l.length - (intOf i).toNat)
  case atStart => exact ⟨0, v1, F1, by omega, rfl, by simpa using T1⟩
  case round =>
    clear T1
    obtain ⟨k, v2, F2, hk, rfl, hT⟩ := hrel
    by_cases hlt : k < l.length
    rotate_left
    · obtain rfl : k = l.length := by omega
      rw [List.take_length, HX.out] at hT
      go_wp2
      go_end0
      exact ⟨rfl, v2, F2, hT⟩
    obtain ⟨x, hx⟩ := get_exU l k hlt
    have hle := flat_mem_le (enc := enc) hx
    have hb2 : ((xs ++ [(l.length : Int)]) ++ ((l.take k).map enc).flatten).length + (enc x).length ≤ 1099511627776 := by
      rw [List.length_append, List.length_append]
      simp only [List.length_singleton]
      omega
    have HN := Lib.hid (show ((xs ++ [(l.length : Int)]) ++ ((l.take k).map enc).flatten) ++ enc x = (xs ++ [(l.length : Int)]) ++ ((l.take (k + 1)).map enc).flatten by rw [flat_snoc hx, List.append_assoc])
    obtain ⟨ad, rfl, q0, q1, q2, q3, q4⟩ := kSrc_at hr k x hx
    have u0 := kept hT.st.bel q0
    have u1 := kept hT.st.bel q1
    have u2 := kept hT.st.bel q2
    have u3 := kept hT.st.bel q3
    have u4 := kept hT.st.bel q4
    have hx' := List.mem_of_getElem? hx
    have HO := Lib.hid (hone x hx')
    clear hx hx' hle q0 q1 q2 q3 q4
    go_wp2_with fail
    refine (HO.out _ _ _ _ ((hS.turn 0 rfl hT).al (.cells #[.int .i64 x.kind, .int .i64 x.n, .int .i64 x.v.k, .int .i64 x.v.n, .string x.v.s] 269 (0, 0))) hb2).mono ?_
    rintro e w2 ⟨rfl, v3, F3, T3⟩
    rw [HN.out] at T3
    go_wp2
    go_roundw
    case rel => exact ⟨k + 1, v3, F3, by omega, by go_num, (hT.al _).turn T3⟩
    case measure => simp [intOf]; omega
/-- What is asked of the closure. -/
def WrExFrame (w0 : World) (L : List Res) (g : Nat) (bx : Nat) (enc : DExFrame → List Int) (x : DExFrame) : Prop := ∀ (W' : World) (v' : Value) (ys : List Int) (F' : List Nat), St w0 (Res.wr 240 g 3 v' ys F' :: L) W' → ys.length + (enc x).length ≤ 1099511627776 → ∀ (A2 A3 : Option Addr) (c2 c3 : Nat), kSrc.Row w0 A2 x.locals.length x.locals → kSrc.Row w0 A3 x.stack.length x.stack → Calls Tryz.prog 200 #[.agg #[.int .i64 x.fn, .int .i64 x.pc, .slice A2 x.locals.length c2, .slice A3 x.stack.length c3], .pointer (some ⟨bx, 0, none⟩)] W' (Wrote w0 W' 240 g 3 v' ys F' (ys ++ enc x))
set_option maxHeartbeats 4000000 in
set_option maxRecDepth 100000 in
theorem writeAllExFrame {w0 W : World} {L : List Res} {g : Nat} (bx : Nat) {v : Value} {xs : List Int} {F : List Nat} (A : Option Addr) (c : Nat) (l : List DExFrame) (enc : DExFrame → List Int) (hS : St w0 (Res.wr 240 g 3 v xs F :: L) W) (hr : kExFrame.Row w0 A l.length l) (hl : l.length ≤ 1048576) (hb : xs.length + (encL enc l).length ≤ 1099511627776) (hone : ∀ x ∈ l, WrExFrame w0 L g bx enc x) :
    Calls Tryz.prog 199 #[.pointer (some ⟨g, 0, none⟩), .slice A l.length c, .func (.func 200) #[] #[.pointer (some ⟨bx, 0, none⟩)]] W (Wrote w0 W 240 g 3 v xs F (xs ++ encL enc l)) := by
  have eL : (encL enc l).length = 1 + (l.map enc).flatten.length := by unfold encL; rw [List.length_cons]; omega
  have HX := Lib.hid (show (xs ++ [(l.length : Int)]) ++ (l.map enc).flatten = xs ++ encL enc l by rw [List.append_assoc]; rfl)
  go_enter Tryz.func199, Tryz.ntmps199
  go_wp2_with fail
  refine (wPut1 (l.length : Int) _ _ _ hS rfl (by omega)).mono ?_
  rintro e w1 ⟨rfl, v1, F1, T1⟩
  go_wp2
  go_loopw [15] (fun i wr => ∃ (k : Nat) (v2 : Value) (F2 : List Nat), k ≤ l.length ∧ i = .int .i64 k ∧ Tn w0 W (Res.wr 240 g 3 v xs F) (Res.wr 240 g 3 v2 ((xs ++ [(l.length : Int)]) ++ ((l.take k).map enc).flatten) F2) [] wr) (fun i _ => l.length - (intOf i).toNat)
  case atStart => exact ⟨0, v1, F1, by omega, rfl, by simpa using T1⟩
  case round =>
    clear T1
    obtain ⟨k, v2, F2, hk, rfl, hT⟩ := hrel
    by_cases hlt : k < l.length
    rotate_left
    · obtain rfl : k = l.length := by omega
      rw [List.take_length, HX.out] at hT
      go_wp2
      go_end0
      exact ⟨rfl, v2, F2, hT⟩
    obtain ⟨x, hx⟩ := get_exU l k hlt
    have hle := flat_mem_le (enc := enc) hx
    have hb2 : ((xs ++ [(l.length : Int)]) ++ ((l.take k).map enc).flatten).length + (enc x).length ≤ 1099511627776 := by
      rw [List.length_append, List.length_append]
      simp only [List.length_singleton]
      omega
    have HN := Lib.hid (show ((xs ++ [(l.length : Int)]) ++ ((l.take k).map enc).flatten) ++ enc x = (xs ++ [(l.length : Int)]) ++ ((l.take (k + 1)).map enc).flatten by rw [flat_snoc hx, List.append_assoc])
    obtain ⟨ad, A2, A3, c2, c3, rfl, q0, q1, q2, q3, _, r2, _, r3⟩ := kExFrame_at hr k x hx
    have u0 := kept hT.st.bel q0
    have u1 := kept hT.st.bel q1
    have u2 := kept hT.st.bel q2
    have u3 := kept hT.st.bel q3
    have hx' := List.mem_of_getElem? hx
    have HO := Lib.hid (hone x hx')
    clear hx hx' hle q0 q1 q2 q3
    go_wp2_with fail
    refine (HO.out _ _ _ _ ((hS.turn 0 rfl hT).al (.cells #[.int .i64 x.fn, .int .i64 x.pc, .slice A2 x.locals.length c2, .slice A3 x.stack.length c3] 171 (0, 0))) hb2 _ _ _ _ r2 r3).mono ?_
    rintro e w2 ⟨rfl, v3, F3, T3⟩
    rw [HN.out] at T3
    go_wp2
    go_roundw
    case rel => exact ⟨k + 1, v3, F3, by omega, by go_num, (hT.al _).turn T3⟩
    case measure => simp [intOf]; omega
/-- What is asked of the closure. -/
def WrExRec (w0 : World) (L : List Res) (g : Nat) (bx : Nat) (enc : DExRec → List Int) (x : DExRec) : Prop := ∀ (W' : World) (v' : Value) (ys : List Int) (F' : List Nat), St w0 (Res.wr 240 g 3 v' ys F' :: L) W' → ys.length + (enc x).length ≤ 1099511627776 → ∀ (A0 : Option Addr) (c0 : Nat), kSrc.Row w0 A0 x.fields.length x.fields → Calls Tryz.prog 204 #[.agg #[.slice A0 x.fields.length c0], .pointer (some ⟨bx, 0, none⟩)] W' (Wrote w0 W' 240 g 3 v' ys F' (ys ++ enc x))
set_option maxHeartbeats 4000000 in
set_option maxRecDepth 100000 in
theorem writeAllExRec {w0 W : World} {L : List Res} {g : Nat} (bx : Nat) {v : Value} {xs : List Int} {F : List Nat} (A : Option Addr) (c : Nat) (l : List DExRec) (enc : DExRec → List Int) (hS : St w0 (Res.wr 240 g 3 v xs F :: L) W) (hr : kExRec.Row w0 A l.length l) (hl : l.length ≤ 1048576) (hb : xs.length + (encL enc l).length ≤ 1099511627776) (hone : ∀ x ∈ l, WrExRec w0 L g bx enc x) :
    Calls Tryz.prog 203 #[.pointer (some ⟨g, 0, none⟩), .slice A l.length c, .func (.func 204) #[] #[.pointer (some ⟨bx, 0, none⟩)]] W (Wrote w0 W 240 g 3 v xs F (xs ++ encL enc l)) := by
  have eL : (encL enc l).length = 1 + (l.map enc).flatten.length := by unfold encL; rw [List.length_cons]; omega
  have HX := Lib.hid (show (xs ++ [(l.length : Int)]) ++ (l.map enc).flatten = xs ++ encL enc l by rw [List.append_assoc]; rfl)
  go_enter Tryz.func203, Tryz.ntmps203
  go_wp2_with fail
  refine (wPut1 (l.length : Int) _ _ _ hS rfl (by omega)).mono ?_
  rintro e w1 ⟨rfl, v1, F1, T1⟩
  go_wp2
  go_loopw [15] (fun i wr => ∃ (k : Nat) (v2 : Value) (F2 : List Nat), k ≤ l.length ∧ i = .int .i64 k ∧ Tn w0 W (Res.wr 240 g 3 v xs F) (Res.wr 240 g 3 v2 ((xs ++ [(l.length : Int)]) ++ ((l.take k).map enc).flatten) F2) [] wr) (fun i _ => l.length - (intOf i).toNat)
  case atStart => exact ⟨0, v1, F1, by omega, rfl, by simpa using T1⟩
  case round =>
    clear T1
    obtain ⟨k, v2, F2, hk, rfl, hT⟩ := hrel
    by_cases hlt : k < l.length
    rotate_left
    · obtain rfl : k = l.length := by omega
      rw [List.take_length, HX.out] at hT
      go_wp2
      go_end0
      exact ⟨rfl, v2, F2, hT⟩
    obtain ⟨x, hx⟩ := get_exU l k hlt
    have hle := flat_mem_le (enc := enc) hx
    have hb2 : ((xs ++ [(l.length : Int)]) ++ ((l.take k).map enc).flatten).length + (enc x).length ≤ 1099511627776 := by
      rw [List.length_append, List.length_append]
      simp only [List.length_singleton]
      omega
    have HN := Lib.hid (show ((xs ++ [(l.length : Int)]) ++ ((l.take k).map enc).flatten) ++ enc x = (xs ++ [(l.length : Int)]) ++ ((l.take (k + 1)).map enc).flatten by rw [flat_snoc hx, List.append_assoc])
    obtain ⟨ad, A0, c0, rfl, q0, _, r0⟩ := kExRec_at hr k x hx
    have u0 := kept hT.st.bel q0
    rw [Nat.mul_one] at u0
    have hx' := List.mem_of_getElem? hx
    have HO := Lib.hid (hone x hx')
    clear hx hx' hle q0
    go_wp2_with fail
    refine (HO.out _ _ _ _ ((hS.turn 0 rfl hT).al (.cells #[.slice A0 x.fields.length c0] 174 (0, 0))) hb2 _ _ r0).mono ?_
    rintro e w2 ⟨rfl, v3, F3, T3⟩
    rw [HN.out] at T3
    go_wp2
    go_roundw
    case rel => exact ⟨k + 1, v3, F3, by omega, by go_num, (hT.al _).turn T3⟩
    case measure => simp [intOf]; omega
/-- What is asked of the closure. -/
def WrExit (w0 : World) (L : List Res) (g : Nat) (bx : Nat) (enc : DExit → List Int) (x : DExit) : Prop := ∀ (W' : World) (v' : Value) (ys : List Int) (F' : List Nat), St w0 (Res.wr 240 g 3 v' ys F' :: L) W' → ys.length + (enc x).length ≤ 1099511627776 → ∀ (A5 A6 : Option Addr) (c5 c6 : Nat), kExFrame.Row w0 A5 x.frames.length x.frames → kExRec.Row w0 A6 x.recs.length x.recs → Calls Tryz.prog 198 #[.agg #[.int .i64 x.kind, .int .i64 x.spec.fn, .int .i64 x.spec.pc, .int .i64 x.spec.kind, .int .i64 x.spec.target, .slice A5 x.frames.length c5, .slice A6 x.recs.length c6], .pointer (some ⟨bx, 0, none⟩)] W' (Wrote w0 W' 240 g 3 v' ys F' (ys ++ enc x))
set_option maxHeartbeats 4000000 in
set_option maxRecDepth 100000 in
theorem writeAllExit {w0 W : World} {L : List Res} {g : Nat} (bx : Nat) {v : Value} {xs : List Int} {F : List Nat} (A : Option Addr) (c : Nat) (l : List DExit) (enc : DExit → List Int) (hS : St w0 (Res.wr 240 g 3 v xs F :: L) W) (hr : kExit.Row w0 A l.length l) (hl : l.length ≤ 1048576) (hb : xs.length + (encL enc l).length ≤ 1099511627776) (hone : ∀ x ∈ l, WrExit w0 L g bx enc x) :
    Calls Tryz.prog 197 #[.pointer (some ⟨g, 0, none⟩), .slice A l.length c, .func (.func 198) #[] #[.pointer (some ⟨bx, 0, none⟩)]] W (Wrote w0 W 240 g 3 v xs F (xs ++ encL enc l)) := by
  have eL : (encL enc l).length = 1 + (l.map enc).flatten.length := by unfold encL; rw [List.length_cons]; omega
  have HX := Lib.hid (show (xs ++ [(l.length : Int)]) ++ (l.map enc).flatten = xs ++ encL enc l by rw [List.append_assoc]; rfl)
  go_enter Tryz.func197, Tryz.ntmps197
  go_wp2_with fail
  refine (wPut1 (l.length : Int) _ _ _ hS rfl (by omega)).mono ?_
  rintro e w1 ⟨rfl, v1, F1, T1⟩
  go_wp2
  go_loopw [15] (fun i wr => ∃ (k : Nat) (v2 : Value) (F2 : List Nat), k ≤ l.length ∧ i = .int .i64 k ∧ Tn w0 W (Res.wr 240 g 3 v xs F) (Res.wr 240 g 3 v2 ((xs ++ [(l.length : Int)]) ++ ((l.take k).map enc).flatten) F2) [] wr) (fun i _ => l.length - (intOf i).toNat)
  case atStart => exact ⟨0, v1, F1, by omega, rfl, by simpa using T1⟩
  case round =>
    clear T1
    obtain ⟨k, v2, F2, hk, rfl, hT⟩ := hrel
    by_cases hlt : k < l.length
    rotate_left
    · obtain rfl : k = l.length := by omega
      rw [List.take_length, HX.out] at hT
      go_wp2
      go_end0
      exact ⟨rfl, v2, F2, hT⟩
    obtain ⟨x, hx⟩ := get_exU l k hlt
    have hle := flat_mem_le (enc := enc) hx
    have hb2 : ((xs ++ [(l.length : Int)]) ++ ((l.take k).map enc).flatten).length + (enc x).length ≤ 1099511627776 := by
      rw [List.length_append, List.length_append]
      simp only [List.length_singleton]
      omega
    have HN := Lib.hid (show ((xs ++ [(l.length : Int)]) ++ ((l.take k).map enc).flatten) ++ enc x = (xs ++ [(l.length : Int)]) ++ ((l.take (k + 1)).map enc).flatten by rw [flat_snoc hx, List.append_assoc])
    obtain ⟨ad, A5, A6, c5, c6, rfl, q0, q1, q2, q3, q4, q5, q6, _, r5, _, r6⟩ := kExit_at hr k x hx
    have u0 := kept hT.st.bel q0
    have u1 := kept hT.st.bel q1
    have u2 := kept hT.st.bel q2
    have u3 := kept hT.st.bel q3
    have u4 := kept hT.st.bel q4
    have u5 := kept hT.st.bel q5
    have u6 := kept hT.st.bel q6
    have hx' := List.mem_of_getElem? hx
    have HO := Lib.hid (hone x hx')
    clear hx hx' hle q0 q1 q2 q3 q4 q5 q6
    go_wp2_with fail
    refine (HO.out _ _ _ _ ((hS.turn 0 rfl hT).al (.cells #[.int .i64 x.kind, .int .i64 x.spec.fn, .int .i64 x.spec.pc, .int .i64 x.spec.kind, .int .i64 x.spec.target, .slice A5 x.frames.length c5, .slice A6 x.recs.length c6] 168 (0, 0))) hb2 _ _ _ _ r5 r6).mono ?_
    rintro e w2 ⟨rfl, v3, F3, T3⟩
    rw [HN.out] at T3
    go_wp2
    go_roundw
    case rel => exact ⟨k + 1, v3, F3, by omega, by go_num, (hT.al _).turn T3⟩
    case measure => simp [intOf]; omega
end Go.Proofs.YthinhlcfpaaldaaGreat.Dat
