/- The reference's look at ops of code: a box whose last cell is turned by every look that fails. -/
import Derived.Test.YthinhlcfpaaldaaGreatFkP
import Derived.Test.YthinhlcfpaaldaaGreatFkO
namespace Go.Proofs.YthinhlcfpaaldaaGreat.Dat
open Go Go.RowKit Go.Proofs.YthinhlcfpaaldaaGreat.Mem
set_option linter.unusedVariables false
set_option linter.unusedSimpArgs false
/-- The checker's box. -/
def kbox (A B A4 A5 : Option Addr) (c0 d0 c4 c5 : Nat) (t : List ByteArray) (l : List DFunc) (c : DFast) (g : Nat) (b : Bool) : Res := Res.box g (.cells #[.slice A t.length c0, .slice B l.length d0, .int .i64 c.fn, .int .i64 c.entry, .int .i64 c.vals, .int .i64 c.nums, .slice A4 c.ops.length c4, .slice A5 c.exits.length c5, .bool b] 285 (0, 0))
set_option maxHeartbeats 4000000 in
set_option maxRecDepth 100000 in
theorem need10 {w0 W : World} {L : List Res} (A B A4 A5 : Option Addr) (c0 d0 c4 c5 : Nat) (t : List ByteArray) (l : List DFunc) (c : DFast) (hS : St w0 L W) (i : Nat) {g : Nat} {b : Bool} (hi : L[i]? = some (kbox A B A4 A5 c0 d0 c4 c5 t l c g b)) (ok : Bool) :
    Calls Tryz.prog 280 #[.pointer (some ⟨g, 0, none⟩), .bool ok] W fun e w' => e = .returned (.tuple #[]) ∧ St w0 (L.set i (kbox A B A4 A5 c0 d0 c4 c5 t l c g (b || !(ok)))) w' := by
  have x_k := hS.cell i hi
  have f_k := hS.free i hi
  have z_k := hS.blt i hi
  cases b
  · cases ok
    · have HS := Lib.hid (hS.set i hi 8 (.bool true))
      go_enter Tryz.func280, Tryz.ntmps280
      go_wp2
      go_end0
      exact ⟨rfl, HS.out⟩
    · have HS := Lib.hid (hS.set i hi 8 (.bool false))
      go_enter Tryz.func280, Tryz.ntmps280
      go_wp2
      go_end0
      exact ⟨rfl, HS.out⟩
  · have HS := Lib.hid (hS.set i hi 8 (.bool true))
    go_enter Tryz.func280, Tryz.ntmps280
    go_wp2
    go_end0
    exact ⟨rfl, HS.out⟩
set_option maxHeartbeats 4000000 in
set_option maxRecDepth 100000 in
theorem val10 {w0 W : World} {L : List Res} (A B A4 A5 : Option Addr) (c0 d0 c4 c5 : Nat) (t : List ByteArray) (l : List DFunc) (c : DFast) (hS : St w0 L W) (i : Nat) {g : Nat} {b : Bool} (hi : L[i]? = some (kbox A B A4 A5 c0 d0 c4 c5 t l c g b)) (r : Int) (h1 : 0 ≤ c.vals) (h2 : c.vals ≤ 400) :
    Calls Tryz.prog 279 #[.pointer (some ⟨g, 0, none⟩), .int .i64 r] W fun e w' => e = .returned (.tuple #[]) ∧ St w0 (L.set i (kbox A B A4 A5 c0 d0 c4 c5 t l c g (b || !(btw r 0 (c.vals - 1))))) w' := by
  have x_k := hS.cell i hi
  have f_k := hS.free i hi
  have z_k := hS.blt i hi
  go_enter Tryz.func279, Tryz.ntmps279
  go_wp2_with (go_at_call 121; (with_reducible refine (between (r := btw r 0 (c.vals - 1)) _ rfl).mono ?_); rintro e w' ⟨rfl, rfl⟩)
  refine (need10 A B A4 A5 c0 d0 c4 c5 t l c hS i hi (btw r 0 (c.vals - 1))).mono ?_
  rintro e w1 ⟨rfl, hS1⟩
  go_wp2
  go_end0
  exact ⟨rfl, hS1⟩
set_option maxHeartbeats 4000000 in
set_option maxRecDepth 100000 in
theorem num10 {w0 W : World} {L : List Res} (A B A4 A5 : Option Addr) (c0 d0 c4 c5 : Nat) (t : List ByteArray) (l : List DFunc) (c : DFast) (hS : St w0 L W) (i : Nat) {g : Nat} {b : Bool} (hi : L[i]? = some (kbox A B A4 A5 c0 d0 c4 c5 t l c g b)) (r : Int) (h1 : 0 ≤ c.nums) (h2 : c.nums ≤ 400) :
    Calls Tryz.prog 281 #[.pointer (some ⟨g, 0, none⟩), .int .i64 r] W fun e w' => e = .returned (.tuple #[]) ∧ St w0 (L.set i (kbox A B A4 A5 c0 d0 c4 c5 t l c g (b || !(btw r 0 (c.nums - 1))))) w' := by
  have x_k := hS.cell i hi
  have f_k := hS.free i hi
  have z_k := hS.blt i hi
  go_enter Tryz.func281, Tryz.ntmps281
  go_wp2_with (go_at_call 121; (with_reducible refine (between (r := btw r 0 (c.nums - 1)) _ rfl).mono ?_); rintro e w' ⟨rfl, rfl⟩)
  refine (need10 A B A4 A5 c0 d0 c4 c5 t l c hS i hi (btw r 0 (c.nums - 1))).mono ?_
  rintro e w1 ⟨rfl, hS1⟩
  go_wp2
  go_end0
  exact ⟨rfl, hS1⟩
set_option maxHeartbeats 4000000 in
set_option maxRecDepth 100000 in
theorem zero10 {w0 W : World} {L : List Res} (A B A4 A5 : Option Addr) (c0 d0 c4 c5 : Nat) (t : List ByteArray) (l : List DFunc) (c : DFast) (hS : St w0 L W) (i : Nat) {g : Nat} {b : Bool} (hi : L[i]? = some (kbox A B A4 A5 c0 d0 c4 c5 t l c g b)) (n : Int) :
    Calls Tryz.prog 277 #[.pointer (some ⟨g, 0, none⟩), .int .i64 n] W fun e w' => e = .returned (.tuple #[]) ∧ St w0 (L.set i (kbox A B A4 A5 c0 d0 c4 c5 t l c g (b || !(decide (n = 0))))) w' := by
  have E := Lib.hid (show (n == 0) = decide (n = 0) by rw [Bool.eq_iff_iff]; simp)
  go_enter Tryz.func277, Tryz.ntmps277
  go_wp2_with fail
  refine (need10 A B A4 A5 c0 d0 c4 c5 t l c hS i hi (n == 0)).mono ?_
  rintro e w1 ⟨rfl, hS1⟩
  rw [E.out] at hS1
  go_wp2
  go_end0
  exact ⟨rfl, hS1⟩
set_option maxHeartbeats 4000000 in
set_option maxRecDepth 100000 in
theorem exit10 {w0 W : World} {L : List Res} (A B A4 A5 : Option Addr) (c0 d0 c4 c5 : Nat) (t : List ByteArray) (l : List DFunc) (c : DFast) (hS : St w0 L W) (i : Nat) {g : Nat} {b : Bool} (hi : L[i]? = some (kbox A B A4 A5 c0 d0 c4 c5 t l c g b)) (x : Int) (h1 : c.exits.length ≤ 1500) :
    Calls Tryz.prog 276 #[.pointer (some ⟨g, 0, none⟩), .int .i64 x] W fun e w' => e = .returned (.tuple #[]) ∧ St w0 (L.set i (kbox A B A4 A5 c0 d0 c4 c5 t l c g (b || !(btw x 0 ((c.exits.length : Int) - 1))))) w' := by
  have x_k := hS.cell i hi
  have f_k := hS.free i hi
  have z_k := hS.blt i hi
  go_enter Tryz.func276, Tryz.ntmps276
  go_wp2_with (go_at_call 121; (with_reducible refine (between (r := btw x 0 ((c.exits.length : Int) - 1)) _ rfl).mono ?_); rintro e w' ⟨rfl, rfl⟩)
  refine (need10 A B A4 A5 c0 d0 c4 c5 t l c hS i hi (btw x 0 ((c.exits.length : Int) - 1))).mono ?_
  rintro e w1 ⟨rfl, hS1⟩
  go_wp2
  go_end0
  exact ⟨rfl, hS1⟩
set_option maxHeartbeats 4000000 in
set_option maxRecDepth 100000 in
theorem goal10 {w0 W : World} {L : List Res} (A B A4 A5 : Option Addr) (c0 d0 c4 c5 : Nat) (t : List ByteArray) (l : List DFunc) (c : DFast) (hS : St w0 L W) (i : Nat) {g : Nat} {b : Bool} (hi : L[i]? = some (kbox A B A4 A5 c0 d0 c4 c5 t l c g b)) (k : Nat) (tz : Int) (hn : c.ops.length ≤ 1500) (r4 : kFOp.Row w0 A4 c.ops.length c.ops) :
    Calls Tryz.prog 282 #[.pointer (some ⟨g, 0, none⟩), .int .i64 k, .int .i64 tz] W fun e w' => e = .returned (.tuple #[]) ∧ St w0 (L.set i (kbox A B A4 A5 c0 d0 c4 c5 t l c g (b || !(btw tz 0 ((c.ops.length : Int) - 1) && backB c.ops k tz)))) w' := by
  have x_k := hS.cell i hi
  have f_k := hS.free i hi
  have z_k := hS.blt i hi
  cases ht : btw tz 0 ((c.ops.length : Int) - 1)
  · have HT := Lib.hid ht
    have HS := Lib.hid (hS.set i hi 8 (.bool true))
    clear ht
    go_enter Tryz.func282, Tryz.ntmps282
    go_wp2_with (go_at_call 121; (with_reducible refine (between _ HT.out).mono ?_); rintro e w' ⟨rfl, rfl⟩)
    refine bodyPost_ret (results_none rfl _ _ _) rfl ?_
    refine ⟨rfl, ?_⟩
    have e : (b || !(false && backB c.ops k tz)) = true := by cases b <;> rfl
    rw [e]
    exact HS.out
  have ht2 := btw_true.1 ht
  obtain ⟨j, rfl⟩ : ∃ j : Nat, tz = j := ⟨tz.toNat, by omega⟩
  obtain ⟨q, hq⟩ := get_exU c.ops j (by omega)
  obtain ⟨ad, rfl, u0, _, _, _, _, _, _, _, _, _⟩ := kFOp_at (r4.below hS.bel) j q hq
  have HT := Lib.hid ht
  have j0 : (0 : Int) ≤ (j : Int) := by omega
  have j1 : (j : Int) < c.ops.length := by omega
  have j2 : j < c.ops.length := by omega
  by_cases hk : (k : Int) < (j : Int)
  · have E := Lib.hid (show (true && backB c.ops k (j : Int)) = true by unfold backB; rw [decide_eq_true hk, Bool.true_or, Bool.or_true]; rfl)
    clear ht hq
    go_enter Tryz.func282, Tryz.ntmps282
    go_wp2_with (go_at_call 121; (with_reducible refine (between _ HT.out).mono ?_); rintro e w' ⟨rfl, rfl⟩)
    refine (need10 A B (some ad) A5 c0 d0 c4 c5 t l c hS i hi true).mono ?_
    rintro e w1 ⟨rfl, hS1⟩
    go_wp2
    go_end0
    exact ⟨rfl, by rw [E.out]; exact hS1⟩
  · have E0 : (true && backB c.ops k (j : Int)) = decide (q.op = 25) := by rw [Bool.true_and]; exact back_at (by omega) hq
    have hk2 : ((k : Int) < (j : Int)) = False := eq_false hk
    have hk3 : (k < j) = False := eq_false (by omega)
    clear hk
    by_cases h25 : q.op = 25
    · have E := Lib.hid (show (true && backB c.ops k (j : Int)) = true by rw [E0]; exact decide_eq_true h25)
      have m25 : (q.op == 25) = true := by simpa using h25
      clear ht hq E0 h25
      go_enter Tryz.func282, Tryz.ntmps282
      go_wp2_with (go_at_call 121; (with_reducible refine (between _ HT.out).mono ?_); rintro e w' ⟨rfl, rfl⟩)
      refine (need10 A B (some ad) A5 c0 d0 c4 c5 t l c hS i hi true).mono ?_
      rintro e w1 ⟨rfl, hS1⟩
      go_wp2
      go_end0
      exact ⟨rfl, by rw [E.out]; exact hS1⟩
    · have E := Lib.hid (show (true && backB c.ops k (j : Int)) = false by rw [E0]; exact decide_eq_false h25)
      have m25 : (q.op == 25) = false := by simpa using h25
      clear ht hq E0 h25
      go_enter Tryz.func282, Tryz.ntmps282
      go_wp2_with (go_at_call 121; (with_reducible refine (between _ HT.out).mono ?_); rintro e w' ⟨rfl, rfl⟩)
      refine (need10 A B (some ad) A5 c0 d0 c4 c5 t l c hS i hi false).mono ?_
      rintro e w1 ⟨rfl, hS1⟩
      go_wp2
      go_end0
      exact ⟨rfl, by rw [E.out]; exact hS1⟩
set_option maxHeartbeats 4000000 in
set_option maxRecDepth 100000 in
theorem none10 {w0 W : World} {L : List Res} (A B A4 A5 : Option Addr) (c0 d0 c4 c5 : Nat) (t : List ByteArray) (l : List DFunc) (c : DFast) (hS : St w0 L W) (i : Nat) {g : Nat} {b : Bool} (hi : L[i]? = some (kbox A B A4 A5 c0 d0 c4 c5 t l c g b)) (v : DValue) :
    Calls Tryz.prog 278 #[.pointer (some ⟨g, 0, none⟩), .agg #[.int .i64 v.k, .int .i64 v.n, .string v.s]] W fun e w' => e = .returned (.tuple #[]) ∧ St w0 (L.set i (kbox A B A4 A5 c0 d0 c4 c5 t l c g (b || !(nilV v)))) w' := by
  obtain ⟨vk, vn, vs⟩ := v
  by_cases k0 : vk = 0
  rotate_left
  · have m0 : (vk == 0) = false := by simpa using k0
    have E := Lib.hid (show nilV ⟨vk, vn, vs⟩ = false by simp_all [nilV, noS])
    have hT := hS.made (.cells #[.int .i64 vk, .int .i64 vn, .string vs] 65 (0, 0))
    have hi' : (Res.box W.heap.size (.cells #[.int .i64 vk, .int .i64 vn, .string vs] 65 (0, 0)) :: L)[i + 1]? = some (kbox A B A4 A5 c0 d0 c4 c5 t l c g b) := by rw [List.getElem?_cons_succ]; exact hi
    go_enter Tryz.func278, Tryz.ntmps278
    go_wp2_with fail
    refine (need10 A B A4 A5 c0 d0 c4 c5 t l c hT (i + 1) hi' false).mono ?_
    rintro e w1 ⟨rfl, hS1⟩
    go_wp2
    go_end0
    exact ⟨rfl, by rw [E.out]; exact hS1.drop⟩
  subst k0
  by_cases n0 : vn = 0
  rotate_left
  · have m0 : (vn == 0) = false := by simpa using n0
    have E := Lib.hid (show nilV ⟨0, vn, vs⟩ = false by simp_all [nilV, noS])
    have hT := hS.made (.cells #[.int .i64 0, .int .i64 vn, .string vs] 65 (0, 0))
    have hi' : (Res.box W.heap.size (.cells #[.int .i64 0, .int .i64 vn, .string vs] 65 (0, 0)) :: L)[i + 1]? = some (kbox A B A4 A5 c0 d0 c4 c5 t l c g b) := by rw [List.getElem?_cons_succ]; exact hi
    go_enter Tryz.func278, Tryz.ntmps278
    go_wp2_with fail
    refine (need10 A B A4 A5 c0 d0 c4 c5 t l c hT (i + 1) hi' false).mono ?_
    rintro e w1 ⟨rfl, hS1⟩
    go_wp2
    go_end0
    exact ⟨rfl, by rw [E.out]; exact hS1.drop⟩
  subst n0
  by_cases s0 : vs.toList = []
  · skip
    have E := Lib.hid (show nilV ⟨0, 0, vs⟩ = true by simp_all [nilV, noS])
    have hT := hS.made (.cells #[.int .i64 0, .int .i64 0, .string vs] 65 (0, 0))
    have hi' : (Res.box W.heap.size (.cells #[.int .i64 0, .int .i64 0, .string vs] 65 (0, 0)) :: L)[i + 1]? = some (kbox A B A4 A5 c0 d0 c4 c5 t l c g b) := by rw [List.getElem?_cons_succ]; exact hi
    go_enter Tryz.func278, Tryz.ntmps278
    go_wp2_with fail
    refine (need10 A B A4 A5 c0 d0 c4 c5 t l c hT (i + 1) hi' true).mono ?_
    rintro e w1 ⟨rfl, hS1⟩
    go_wp2
    go_end0
    exact ⟨rfl, by rw [E.out]; exact hS1.drop⟩
  · skip
    have E := Lib.hid (show nilV ⟨0, 0, vs⟩ = false by simp_all [nilV, noS])
    have hT := hS.made (.cells #[.int .i64 0, .int .i64 0, .string vs] 65 (0, 0))
    have hi' : (Res.box W.heap.size (.cells #[.int .i64 0, .int .i64 0, .string vs] 65 (0, 0)) :: L)[i + 1]? = some (kbox A B A4 A5 c0 d0 c4 c5 t l c g b) := by rw [List.getElem?_cons_succ]; exact hi
    go_enter Tryz.func278, Tryz.ntmps278
    go_wp2_with fail
    refine (need10 A B A4 A5 c0 d0 c4 c5 t l c hT (i + 1) hi' false).mono ?_
    rintro e w1 ⟨rfl, hS1⟩
    go_wp2
    go_end0
    exact ⟨rfl, by rw [E.out]; exact hS1.drop⟩
def exB (op : Int) : Bool := match shp op with
  | none => false
  | some q => q.2.2.2
set_option maxHeartbeats 4000000 in
set_option maxRecDepth 100000 in
theorem exits10 (op : Int) (w : World) : Calls Tryz.prog 275 #[.int .i64 op] w fun e w' => e = .returned (.bool (exB op)) ∧ w = w' := by
  by_cases hb : btw op 1 29 = true
  · have hb2 := btw_true.1 hb
    have h29 : op = 1 ∨ op = 2 ∨ op = 3 ∨ op = 4 ∨ op = 5 ∨ op = 6 ∨ op = 7 ∨ op = 8 ∨ op = 9 ∨ op = 10 ∨ op = 11 ∨ op = 12 ∨ op = 13 ∨ op = 14 ∨ op = 15 ∨ op = 16 ∨ op = 17 ∨ op = 18 ∨ op = 19 ∨ op = 20 ∨ op = 21 ∨ op = 22 ∨ op = 23 ∨ op = 24 ∨ op = 25 ∨ op = 26 ∨ op = 27 ∨ op = 28 ∨ op = 29 := by omega
    clear hb hb2
    rcases h29 with rfl | rfl | rfl | rfl | rfl | rfl | rfl | rfl | rfl | rfl | rfl | rfl | rfl | rfl | rfl | rfl | rfl | rfl | rfl | rfl | rfl | rfl | rfl | rfl | rfl | rfl | rfl | rfl | rfl
    all_goals (go_enter Tryz.func275, Tryz.ntmps275; go_wp2; go_ret; exact ⟨rfl, rfl⟩)
  · have hn : ¬ (1 ≤ op ∧ op ≤ 29) := fun h => hb (btw_true.2 h)
    have m5 : (op == 5) = false := by simp; omega
    have m7 : (op == 7) = false := by simp; omega
    have m8 : (op == 8) = false := by simp; omega
    have m9 : (op == 9) = false := by simp; omega
    have m10 : (op == 10) = false := by simp; omega
    have m12 : (op == 12) = false := by simp; omega
    have m13 : (op == 13) = false := by simp; omega
    have m14 : (op == 14) = false := by simp; omega
    have m15 : (op == 15) = false := by simp; omega
    have m17 : (op == 17) = false := by simp; omega
    have m18 : (op == 18) = false := by simp; omega
    have m19 : (op == 19) = false := by simp; omega
    have m20 : (op == 20) = false := by simp; omega
    have m22 : (op == 22) = false := by simp; omega
    have m24 : (op == 24) = false := by simp; omega
    have m25 : (op == 25) = false := by simp; omega
    have m26 : (op == 26) = false := by simp; omega
    have m28 : (op == 28) = false := by simp; omega
    have m29 : (op == 29) = false := by simp; omega
    have E := Lib.hid (show exB op = false by unfold exB shp; rw [if_neg hb])
    clear hb hn
    go_enter Tryz.func275, Tryz.ntmps275
    go_wp2
    go_ret
    exact ⟨ret_bool E.out.symm, rfl⟩
end Go.Proofs.YthinhlcfpaaldaaGreat.Dat
