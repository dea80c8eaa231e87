/- Rows written element by element through a closure. Written by a program (wrgen.py). -/
import Derived.Test.YthinhlcfpaaldaaGreatWrI
namespace Go.Proofs.YthinhlcfpaaldaaGreat.Dat
open Go Go.RowKit Go.Proofs.YthinhlcfpaaldaaGreat.Mem
set_option linter.unusedVariables false
set_option linter.unusedSimpArgs false
/-- What is asked of the closure. -/
def WrValue (w0 : World) (L : List Res) (g : Nat) (enc : DValue → List Int) (x : DValue) : Prop := ∀ (W' : World) (v' : Value) (ys : List Int) (F' : List Nat), St w0 (Res.wr 240 g 3 v' ys F' :: L) W' → ys.length + (enc x).length ≤ 1099511627776 → Calls Tryz.prog 174 #[.pointer (some ⟨g, 0, none⟩), .agg #[.int .i64 x.k, .int .i64 x.n, .string x.s]] W' (Wrote w0 W' 240 g 3 v' ys F' (ys ++ enc x))
set_option maxHeartbeats 4000000 in
set_option maxRecDepth 100000 in
theorem writeAllValue {w0 W : World} {L : List Res} {g : Nat} {v : Value} {xs : List Int} {F : List Nat} (A : Option Addr) (c : Nat) (l : List DValue) (enc : DValue → List Int) (hS : St w0 (Res.wr 240 g 3 v xs F :: L) W) (hr : kValue.Row w0 A l.length l) (hl : l.length ≤ 1048576) (hb : xs.length + (encL enc l).length ≤ 1099511627776) (hone : ∀ x ∈ l, WrValue w0 L g enc x) :
    Calls Tryz.prog 173 #[.pointer (some ⟨g, 0, none⟩), .slice A l.length c, .func (.func 174) #[.pointer (some ⟨g, 0, none⟩)] #[]] W (Wrote w0 W 240 g 3 v xs F (xs ++ encL enc l)) := by
  have eL : (encL enc l).length = 1 + (l.map enc).flatten.length := by unfold encL; rw [List.length_cons]; omega
  have HX := Lib.hid (show (xs ++ [(l.length : Int)]) ++ (l.map enc).flatten = xs ++ encL enc l by rw [List.append_assoc]; rfl)
  go_enter Tryz.func173, Tryz.ntmps173
  go_wp2_with fail
  refine (wPut1 (l.length : Int) _ _ _ hS rfl (by omega)).mono ?_
  rintro e w1 ⟨rfl, v1, F1, T1⟩
  go_wp2
  go_loopw [15] (fun i wr => ∃ (k : Nat) (v2 : Value) (F2 : List Nat), k ≤ l.length ∧ i = .int .i64 k ∧ Tn w0 W (Res.wr 240 g 3 v xs F) (Res.wr 240 g 3 v2 ((xs ++ [(l.length : Int)]) ++ ((l.take k).map enc).flatten) F2) [] wr) (fun i _ => l.length - (intOf i).toNat)
  case atStart => exact ⟨0, v1, F1, by omega, rfl, by simpa using T1⟩
  case round =>
    clear T1
    obtain ⟨k, v2, F2, hk, rfl, hT⟩ := hrel
    by_cases hlt : k < l.length
    rotate_left
    · obtain rfl : k = l.length := by omega
      rw [List.take_length, HX.out] at hT
      go_wp2
      go_end0
      exact ⟨rfl, v2, F2, hT⟩
    obtain ⟨x, hx⟩ := get_exU l k hlt
    have hle := flat_mem_le (enc := enc) hx
    have hb2 : ((xs ++ [(l.length : Int)]) ++ ((l.take k).map enc).flatten).length + (enc x).length ≤ 1099511627776 := by
      rw [List.length_append, List.length_append]
      simp only [List.length_singleton]
      omega
    have HN := Lib.hid (show ((xs ++ [(l.length : Int)]) ++ ((l.take k).map enc).flatten) ++ enc x = (xs ++ [(l.length : Int)]) ++ ((l.take (k + 1)).map enc).flatten by rw [flat_snoc hx, List.append_assoc])
    obtain ⟨ad, rfl, q0, q1, q2⟩ := kValue_at hr k x hx
    have u0 := kept hT.st.bel q0
    have u1 := kept hT.st.bel q1
    have u2 := kept hT.st.bel q2
    have hx' := List.mem_of_getElem? hx
    have HO := Lib.hid (hone x hx')
    clear hx hx' hle q0 q1 q2
    go_wp2_with fail
    refine (HO.out _ _ _ _ ((hS.turn 0 rfl hT).al (.cells #[.int .i64 x.k, .int .i64 x.n, .string x.s] 65 (0, 0))) hb2).mono ?_
    rintro e w2 ⟨rfl, v3, F3, T3⟩
    rw [HN.out] at T3
    go_wp2
    go_roundw
    case rel => exact ⟨k + 1, v3, F3, by omega, by go_num, (hT.al _).turn T3⟩
    case measure => simp [intOf]; omega
/-- What is asked of the closure. -/
def WrText (w0 : World) (L : List Res) (g : Nat) (enc : ByteArray → List Int) (x : ByteArray) : Prop := ∀ (W' : World) (v' : Value) (ys : List Int) (F' : List Nat), St w0 (Res.wr 240 g 3 v' ys F' :: L) W' → ys.length + (enc x).length ≤ 1099511627776 → Calls Tryz.prog 178 #[.pointer (some ⟨g, 0, none⟩), .string x] W' (Wrote w0 W' 240 g 3 v' ys F' (ys ++ enc x))
set_option maxHeartbeats 4000000 in
set_option maxRecDepth 100000 in
theorem writeAllText {w0 W : World} {L : List Res} {g : Nat} {v : Value} {xs : List Int} {F : List Nat} (A : Option Addr) (c : Nat) (l : List ByteArray) (enc : ByteArray → List Int) (hS : St w0 (Res.wr 240 g 3 v xs F :: L) W) (hr : Knd.str.Row w0 A l.length l) (hl : l.length ≤ 1048576) (hb : xs.length + (encL enc l).length ≤ 1099511627776) (hone : ∀ x ∈ l, WrText w0 L g enc x) :
    Calls Tryz.prog 177 #[.pointer (some ⟨g, 0, none⟩), .slice A l.length c, .func (.func 178) #[.pointer (some ⟨g, 0, none⟩)] #[]] W (Wrote w0 W 240 g 3 v xs F (xs ++ encL enc l)) := by
  have eL : (encL enc l).length = 1 + (l.map enc).flatten.length := by unfold encL; rw [List.length_cons]; omega
  have HX := Lib.hid (show (xs ++ [(l.length : Int)]) ++ (l.map enc).flatten = xs ++ encL enc l by rw [List.append_assoc]; rfl)
  go_enter Tryz.func177, Tryz.ntmps177
  go_wp2_with fail
  refine (wPut1 (l.length : Int) _ _ _ hS rfl (by omega)).mono ?_
  rintro e w1 ⟨rfl, v1, F1, T1⟩
  go_wp2
  go_loopw [15] (fun i wr => ∃ (k : Nat) (v2 : Value) (F2 : List Nat), k ≤ l.length ∧ i = .int .i64 k ∧ Tn w0 W (Res.wr 240 g 3 v xs F) (Res.wr 240 g 3 v2 ((xs ++ [(l.length : Int)]) ++ ((l.take k).map enc).flatten) F2) [] wr) (fun i _ => l.length - (intOf i).toNat)
  case atStart => exact ⟨0, v1, F1, by omega, rfl, by simpa using T1⟩
  case round =>
    clear T1
    obtain ⟨k, v2, F2, hk, rfl, hT⟩ := hrel
    by_cases hlt : k < l.length
    rotate_left
    · obtain rfl : k = l.length := by omega
      rw [List.take_length, HX.out] at hT
      go_wp2
      go_end0
      exact ⟨rfl, v2, F2, hT⟩
    obtain ⟨x, hx⟩ := get_exU l k hlt
    have hle := flat_mem_le (enc := enc) hx
    have hb2 : ((xs ++ [(l.length : Int)]) ++ ((l.take k).map enc).flatten).length + (enc x).length ≤ 1099511627776 := by
      rw [List.length_append, List.length_append]
      simp only [List.length_singleton]
      omega
    have HN := Lib.hid (show ((xs ++ [(l.length : Int)]) ++ ((l.take k).map enc).flatten) ++ enc x = (xs ++ [(l.length : Int)]) ++ ((l.take (k + 1)).map enc).flatten by rw [flat_snoc hx, List.append_assoc])
    obtain ⟨ad, rfl, q0⟩ := hr.one k x hx
    have u0 := kept hT.st.bel q0
    have hx' := List.mem_of_getElem? hx
    have HO := Lib.hid (hone x hx')
    clear hx hx' hle q0
    go_wp2_with fail
    refine (HO.out _ _ _ _ (hS.turn 0 rfl hT) hb2).mono ?_
    rintro e w2 ⟨rfl, v3, F3, T3⟩
    rw [HN.out] at T3
    go_wp2
    go_roundw
    case rel => exact ⟨k + 1, v3, F3, by omega, by go_num, hT.turn T3⟩
    case measure => simp [intOf]; omega
/-- What is asked of the closure. -/
def WrFrame (w0 : World) (L : List Res) (g : Nat) (bx : Nat) (enc : DFrame → List Int) (x : DFrame) : Prop := ∀ (W' : World) (v' : Value) (ys : List Int) (F' : List Nat), St w0 (Res.wr 240 g 3 v' ys F' :: L) W' → ys.length + (enc x).length ≤ 1099511627776 → ∀ (A2 A3 : Option Addr) (c2 c3 : Nat), kValue.Row w0 A2 x.locals.length x.locals → kValue.Row w0 A3 x.stack.length x.stack → Calls Tryz.prog 171 #[.agg #[.int .i64 x.fn, .int .i64 x.pc, .slice A2 x.locals.length c2, .slice A3 x.stack.length c3], .pointer (some ⟨bx, 0, none⟩)] W' (Wrote w0 W' 240 g 3 v' ys F' (ys ++ enc x))
set_option maxHeartbeats 4000000 in
set_option maxRecDepth 100000 in
theorem writeAllFrame {w0 W : World} {L : List Res} {g : Nat} (bx : Nat) {v : Value} {xs : List Int} {F : List Nat} (A : Option Addr) (c : Nat) (l : List DFrame) (enc : DFrame → List Int) (hS : St w0 (Res.wr 240 g 3 v xs F :: L) W) (hr : kFrame.Row w0 A l.length l) (hl : l.length ≤ 1048576) (hb : xs.length + (encL enc l).length ≤ 1099511627776) (hone : ∀ x ∈ l, WrFrame w0 L g bx enc x) :
    Calls Tryz.prog 170 #[.pointer (some ⟨g, 0, none⟩), .slice A l.length c, .func (.func 171) #[] #[.pointer (some ⟨bx, 0, none⟩)]] W (Wrote w0 W 240 g 3 v xs F (xs ++ encL enc l)) := by
  have eL : (encL enc l).length = 1 + (l.map enc).flatten.length := by unfold encL; rw [List.length_cons]; omega
  have HX := Lib.hid (show (xs ++ [(l.length : Int)]) ++ (l.map enc).flatten = xs ++ encL enc l by rw [List.append_assoc]; rfl)
  go_enter Tryz.func170, Tryz.ntmps170
  go_wp2_with fail
  refine (wPut1 (l.length : Int) _ _ _ hS rfl (by omega)).mono ?_
  rintro e w1 ⟨rfl, v1, F1, T1⟩
  go_wp2
  go_loopw [15] (fun i wr => ∃ (k : Nat) (v2 : Value) (F2 : List Nat), k ≤ l.length ∧ i = .int .i64 k ∧ Tn w0 W (Res.wr 240 g 3 v xs F) (Res.wr 240 g 3 v2 ((xs ++ [(l.length : Int)]) ++ ((l.take k).map enc).flatten) F2) [] wr) (fun i _ => l.length - (intOf i).toNat)
  case atStart => exact ⟨0, v1, F1, by omega, rfl, by simpa using T1⟩
  case round =>
    clear T1
    obtain ⟨k, v2, F2, hk, rfl, hT⟩ := hrel
    by_cases hlt : k < l.length
    rotate_left
    · obtain rfl : k = l.length := by omega
      rw [List.take_length, HX.out] at hT
      go_wp2
      go_end0
      exact ⟨rfl, v2, F2, hT⟩
    obtain ⟨x, hx⟩ := get_exU l k hlt
    have hle := flat_mem_le (enc := enc) hx
    have hb2 : ((xs ++ [(l.length : Int)]) ++ ((l.take k).map enc).flatten).length + (enc x).length ≤ 1099511627776 := by
      rw [List.length_append, List.length_append]
      simp only [List.length_singleton]
      omega
    have HN := Lib.hid (show ((xs ++ [(l.length : Int)]) ++ ((l.take k).map enc).flatten) ++ enc x = (xs ++ [(l.length : Int)]) ++ ((l.take (k + 1)).map enc).flatten by rw [flat_snoc hx, List.append_assoc])
    obtain ⟨ad, A2, A3, c2, c3, rfl, q0, q1, q2, q3, _, r2, _, r3⟩ := kFrame_at hr k x hx
    have u0 := kept hT.st.bel q0
    have u1 := kept hT.st.bel q1
    have u2 := kept hT.st.bel q2
    have u3 := kept hT.st.bel q3
    have hx' := List.mem_of_getElem? hx
    have HO := Lib.hid (hone x hx')
    clear hx hx' hle q0 q1 q2 q3
    go_wp2_with fail
    refine (HO.out _ _ _ _ ((hS.turn 0 rfl hT).al (.cells #[.int .i64 x.fn, .int .i64 x.pc, .slice A2 x.locals.length c2, .slice A3 x.stack.length c3] 145 (0, 0))) hb2 _ _ _ _ r2 r3).mono ?_
    rintro e w2 ⟨rfl, v3, F3, T3⟩
    rw [HN.out] at T3
    go_wp2
    go_roundw
    case rel => exact ⟨k + 1, v3, F3, by omega, by go_num, (hT.al _).turn T3⟩
    case measure => simp [intOf]; omega
/-- What is asked of the closure. -/
def WrRec (w0 : World) (L : List Res) (g : Nat) (bx : Nat) (enc : DRec → List Int) (x : DRec) : Prop := ∀ (W' : World) (v' : Value) (ys : List Int) (F' : List Nat), St w0 (Res.wr 240 g 3 v' ys F' :: L) W' → ys.length + (enc x).length ≤ 1099511627776 → ∀ (A0 : Option Addr) (c0 : Nat), kValue.Row w0 A0 x.fields.length x.fields → Calls Tryz.prog 176 #[.agg #[.slice A0 x.fields.length c0], .pointer (some ⟨bx, 0, none⟩)] W' (Wrote w0 W' 240 g 3 v' ys F' (ys ++ enc x))
set_option maxHeartbeats 4000000 in
set_option maxRecDepth 100000 in
theorem writeAllRec {w0 W : World} {L : List Res} {g : Nat} (bx : Nat) {v : Value} {xs : List Int} {F : List Nat} (A : Option Addr) (c : Nat) (l : List DRec) (enc : DRec → List Int) (hS : St w0 (Res.wr 240 g 3 v xs F :: L) W) (hr : kRec.Row w0 A l.length l) (hl : l.length ≤ 1048576) (hb : xs.length + (encL enc l).length ≤ 1099511627776) (hone : ∀ x ∈ l, WrRec w0 L g bx enc x) :
    Calls Tryz.prog 175 #[.pointer (some ⟨g, 0, none⟩), .slice A l.length c, .func (.func 176) #[] #[.pointer (some ⟨bx, 0, none⟩)]] W (Wrote w0 W 240 g 3 v xs F (xs ++ encL enc l)) := by
  have eL : (encL enc l).length = 1 + (l.map enc).flatten.length := by unfold encL; rw [List.length_cons]; omega
  have HX := Lib.hid (show (xs ++ [(l.length : Int)]) ++ (l.map enc).flatten = xs ++ encL enc l by rw [List.append_assoc]; rfl)
  go_enter Tryz.func175, Tryz.ntmps175
  go_wp2_with fail
  refine (wPut1 (l.length : Int) _ _ _ hS rfl (by omega)).mono ?_
  rintro e w1 ⟨rfl, v1, F1, T1⟩
  go_wp2
  go_loopw [15] (fun i wr => ∃ (k : Nat) (v2 : Value) (F2 : List Nat), k ≤ l.length ∧ i = .int .i64 k ∧ Tn w0 W (Res.wr 240 g 3 v xs F) (Res.wr 240 g 3 v2 ((xs ++ [(l.length : Int)]) ++ ((l.take k).map enc).flatten) F2) [] wr) (fun i _ => l.length - (intOf i).toNat)
  case atStart => exact ⟨0, v1, F1, by omega, rfl, by simpa using T1⟩
  case round =>
    clear T1
    obtain ⟨k, v2, F2, hk, rfl, hT⟩ := hrel
    by_cases hlt : k < l.length
    rotate_left
    · obtain rfl : k = l.length := by omega
      rw [List.take_length, HX.out] at hT
      go_wp2
      go_end0
      exact ⟨rfl, v2, F2, hT⟩
    obtain ⟨x, hx⟩ := get_exU l k hlt
    have hle := flat_mem_le (enc := enc) hx
    have hb2 : ((xs ++ [(l.length : Int)]) ++ ((l.take k).map enc).flatten).length + (enc x).length ≤ 1099511627776 := by
      rw [List.length_append, List.length_append]
      simp only [List.length_singleton]
      omega
    have HN := Lib.hid (show ((xs ++ [(l.length : Int)]) ++ ((l.take k).map enc).flatten) ++ enc x = (xs ++ [(l.length : Int)]) ++ ((l.take (k + 1)).map enc).flatten by rw [flat_snoc hx, List.append_assoc])
    obtain ⟨ad, A0, c0, rfl, q0, _, r0⟩ := kRec_at hr k x hx
    have u0 := kept hT.st.bel q0
    rw [Nat.mul_one] at u0
    have hx' := List.mem_of_getElem? hx
    have HO := Lib.hid (hone x hx')
    clear hx hx' hle q0
    go_wp2_with fail
    refine (HO.out _ _ _ _ ((hS.turn 0 rfl hT).al (.cells #[.slice A0 x.fields.length c0] 148 (0, 0))) hb2 _ _ r0).mono ?_
    rintro e w2 ⟨rfl, v3, F3, T3⟩
    rw [HN.out] at T3
    go_wp2
    go_roundw
    case rel => exact ⟨k + 1, v3, F3, by omega, by go_num, (hT.al _).turn T3⟩
    case measure => simp [intOf]; omega
end Go.Proofs.YthinhlcfpaaldaaGreat.Dat
