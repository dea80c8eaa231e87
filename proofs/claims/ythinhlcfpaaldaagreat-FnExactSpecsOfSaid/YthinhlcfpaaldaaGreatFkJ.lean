/- What an op of code must be, in the program. -/
import Derived.Test.YthinhlcfpaaldaaGreatFkI
namespace Go.Proofs.YthinhlcfpaaldaaGreat.Dat
open Go Go.RowKit Go.Proofs.YthinhlcfpaaldaaGreat.Mem
set_option linter.unusedVariables false
set_option linter.unusedSimpArgs false
set_option maxHeartbeats 4000000 in
set_option maxRecDepth 100000 in
theorem constI (A B : Option Addr) (c0 d0 : Nat) (t : List ByteArray) (l : List DFunc) (o : DFOp) (w : World) (hl : l.length ≤ 12) (hs : o.v.s.size ≤ maxLen) :
    Calls Tryz.prog 292 #[.agg #[.slice A t.length c0, .slice B l.length d0], .agg #[.int .i64 o.op, .int .i64 o.d, .int .i64 o.a, .int .i64 o.b, .int .i64 o.x, .int .i64 o.f, .int .i64 o.p, .int .i64 o.v.k, .int .i64 o.v.n, .string o.v.s]] w fun e w' => e = .returned (.bool (constB l.length o)) ∧ Below w.heap.size w w' := by
  obtain ⟨op, od, oa, ob, ox, of_, op_, vk, vn, vs⟩ := o
  by_cases k1 : op = 1
  · subst k1
    have E := Lib.hid (show constB l.length ⟨1, od, oa, ob, ox, of_, op_, ⟨vk, vn, vs⟩⟩ = valB l.length 0 ⟨vk, vn, vs⟩ from rfl)
    have hS := ((St.start w).made (.cells #[.slice A t.length c0, .slice B l.length d0] 36 (0, 0))).madeAt (.cells #[.int .i64 1, .int .i64 od, .int .i64 oa, .int .i64 ob, .int .i64 ox, .int .i64 of_, .int .i64 op_, .int .i64 vk, .int .i64 vn, .string vs] 164 (0, 0)) (w.heap.size + 1) (by simp)
    go_enter Tryz.func292, Tryz.ntmps292
    go_wp2_with fail
    refine (valI l.length 0 ⟨vk, vn, vs⟩ _ hs (by omega) (by omega) (by omega) (by omega)).mono ?_
    rintro e w1 ⟨rfl, hb⟩
    have hz := hS.step hb
    go_wp2
    go_ret
    exact ⟨ret_bool E.out.symm, hz.bel⟩
  by_cases k3 : op = 3
  · subst k3
    clear k1
    by_cases h1 : vk = 1
    · subst h1
      have E := Lib.hid (show constB l.length ⟨3, od, oa, ob, ox, of_, op_, ⟨1, vn, vs⟩⟩ = valB l.length 0 ⟨1, vn, vs⟩ from rfl)
      have hS := ((St.start w).made (.cells #[.slice A t.length c0, .slice B l.length d0] 36 (0, 0))).madeAt (.cells #[.int .i64 3, .int .i64 od, .int .i64 oa, .int .i64 ob, .int .i64 ox, .int .i64 of_, .int .i64 op_, .int .i64 1, .int .i64 vn, .string vs] 164 (0, 0)) (w.heap.size + 1) (by simp)
      go_enter Tryz.func292, Tryz.ntmps292
      go_wp2_with fail
      refine (valI l.length 0 ⟨1, vn, vs⟩ _ hs (by omega) (by omega) (by omega) (by omega)).mono ?_
      rintro e w1 ⟨rfl, hb⟩
      have hz := hS.step hb
      go_wp2
      go_ret
      exact ⟨ret_bool E.out.symm, hz.bel⟩
    · have n1 : (vk == 1) = false := by simpa using h1
      have E2 := Lib.hid (show constB l.length ⟨3, od, oa, ob, ox, of_, op_, ⟨vk, vn, vs⟩⟩ = false by show (decide (vk = 1) && _) = false; rw [decide_eq_false h1, Bool.false_and])
      clear h1
      go_enter Tryz.func292, Tryz.ntmps292
      go_wp2
      go_ret
      exact ⟨ret_bool E2.out.symm, bl9⟩
  have m1 : (op == 1) = false := by simpa using k1
  have m3 : (op == 3) = false := by simpa using k3
  have E := Lib.hid (show constB l.length ⟨op, od, oa, ob, ox, of_, op_, ⟨vk, vn, vs⟩⟩ = nilV ⟨vk, vn, vs⟩ by unfold constB; rw [if_neg k1, if_neg k3])
  clear k1 k3
  go_enter Tryz.func292, Tryz.ntmps292
  go_wp2
  all_goals (go_ret; refine ⟨ret_bool ?_, bl9⟩; rw [Bool.eq_iff_iff]; simp_all [constB, nilV, noS])
theorem goesI (o : DFOp) (w : World) : Calls Tryz.prog 293 #[.agg #[.int .i64 o.op, .int .i64 o.d, .int .i64 o.a, .int .i64 o.b, .int .i64 o.x, .int .i64 o.f, .int .i64 o.p, .int .i64 o.v.k, .int .i64 o.v.n, .string o.v.s]] w fun e w' => e = .returned (.int .i64 (goB o)) ∧ Below w.heap.size w w' := by
  obtain ⟨op, od, oa, ob, ox, of_, op_, vk, vn, vs⟩ := o
  by_cases k1 : op = 23
  · subst k1
    go_enter Tryz.func293, Tryz.ntmps293
    go_wp2
    go_ret
    exact ⟨rfl, bl9⟩
  have m1 : (op == 23) = false := by simpa using k1
  by_cases k2 : op = 24
  · subst k2
    clear k1 m1
    go_enter Tryz.func293, Tryz.ntmps293
    go_wp2
    go_ret
    exact ⟨rfl, bl9⟩
  have m2 : (op == 24) = false := by simpa using k2
  have E := Lib.hid (show goB ⟨op, od, oa, ob, ox, of_, op_, ⟨vk, vn, vs⟩⟩ = -1 by unfold goB; rw [if_neg k1, if_neg k2])
  clear k1 k2
  go_enter Tryz.func293, Tryz.ntmps293
  go_wp2
  go_ret
  exact ⟨ret_int E.out.symm, bl9⟩
end Go.Proofs.YthinhlcfpaaldaaGreat.Dat
