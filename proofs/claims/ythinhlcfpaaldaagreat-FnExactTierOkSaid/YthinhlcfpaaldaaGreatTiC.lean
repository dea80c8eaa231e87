/- codeAt: the place of the code of a function and an entry. -/
import Derived.Test.YthinhlcfpaaldaaGreatTiP
import Derived.Test.YthinhlcfpaaldaaGreatK3
namespace Go.Proofs.YthinhlcfpaaldaaGreat.Dat
open Go Go.RowKit Go.Proofs.YthinhlcfpaaldaaGreat.Mem
set_option linter.unusedVariables false
set_option linter.unusedSimpArgs false
theorem take_none {α : Type} {p : α → Bool} {l : List α} {k : Nat} (h : ∀ j x, l[j]? = some x → j < k → p x = false) : (l.take k).any p = false := by
  rw [List.any_eq_false]
  intro x hx
  obtain ⟨j, hj⟩ := List.mem_iff_getElem?.1 hx
  rw [List.getElem?_take] at hj
  split at hj
  · rename_i hlt
    simp [h j x hj hlt]
  · cases hj
set_option maxHeartbeats 4000000 in
set_option maxRecDepth 100000 in
theorem codeCl (A4 A5 : Option Addr) (c4 c5 : Nat) (x : DFast) (fn en : Int) (g1 g2 : Nat) (W : World) (q1 : W.cell? ⟨g1, 0, none⟩ = some (.int .i64 fn)) (q2 : W.cell? ⟨g2, 0, none⟩ = some (.int .i64 en)) :
    Calls Tryz.prog 242 #[.agg #[.int .i64 x.fn, .int .i64 x.entry, .int .i64 x.vals, .int .i64 x.nums, .slice A4 x.ops.length c4, .slice A5 x.exits.length c5], .pointer (some ⟨g1, 0, none⟩), .pointer (some ⟨g2, 0, none⟩)] W fun e w' => e = .returned (.bool (decide (x.fn = fn) && decide (x.entry = en))) ∧ Below W.heap.size W w' := by
  have hS := (St.start W).made (.cells #[.int .i64 x.fn, .int .i64 x.entry, .int .i64 x.vals, .int .i64 x.nums, .slice A4 x.ops.length c4, .slice A5 x.exits.length c5] 41 (0, 0))
  have u1 := kept hS.bel q1
  have u2 := kept hS.bel q2
  clear q1 q2
  by_cases hf : x.fn = fn
  · have b1 : (x.fn == fn) = true := by simp [hf]
    by_cases hp : x.entry = en
    · have b2 : (x.entry == en) = true := by simp [hp]
      have E := Lib.hid (show (decide (x.fn = fn) && decide (x.entry = en)) = true by rw [decide_eq_true hf, decide_eq_true hp]; rfl)
      clear hf hp
      go_enter Tryz.func242, Tryz.ntmps242
      go_wp2
      go_ret
      exact ⟨ret_bool E.out.symm, hS.bel⟩
    · have b2 : (x.entry == en) = false := by simp [hp]
      have E := Lib.hid (show (decide (x.fn = fn) && decide (x.entry = en)) = false by rw [decide_eq_false hp, Bool.and_false])
      clear hf hp
      go_enter Tryz.func242, Tryz.ntmps242
      go_wp2
      go_ret
      exact ⟨ret_bool E.out.symm, hS.bel⟩
  · have b1 : (x.fn == fn) = false := by simp [hf]
    have E := Lib.hid (show (decide (x.fn = fn) && decide (x.entry = en)) = false by rw [decide_eq_false hf, Bool.false_and])
    clear hf
    go_enter Tryz.func242, Tryz.ntmps242
    go_wp2
    go_ret
    exact ⟨ret_bool E.out.symm, hS.bel⟩
set_option maxHeartbeats 4000000 in
set_option maxRecDepth 100000 in
theorem idxFast (A : Option Addr) (c : Nat) (l : List DFast) (p1 p2 : Value) (p : DFast → Bool) (w : World) (hr : kFast.Row w A l.length l) (hl : l.length ≤ 1048576) (hp : Asks Tryz.prog kFast agg1 242 [p1, p2] p w l) :
    Calls Tryz.prog 241 #[.slice A l.length c, .func (.func 242) #[] #[p1, p2]] w fun e w' => ∃ r : Int, e = .returned (.int .i64 r) ∧ FirstIs p l r ∧ Below w.heap.size w w' := by
  go_enter Tryz.func241, Tryz.ntmps241
  go_wp2
  go_loopw [8] (fun i wr => ∃ k : Nat, k ≤ l.length ∧ i = .int .i64 k ∧ Hid (∀ j x, l[j]? = some x → j < k → p x = false) ∧ Below w.heap.size w wr) (fun i _ => l.length - (intOf i).toNat)
  case atStart => exact ⟨0, by omega, rfl, (fun j x _ h => by omega), Below.refl _ _⟩
  case round =>
    obtain ⟨k, hk, rfl, ho, hb⟩ := hrel
    by_cases hlt : k < l.length
    · obtain ⟨x, hx⟩ := get_exU l k hlt
      obtain ⟨ad, A4, A5, c4, c5, rfl, q0, q1, q2, q3, q4, q5, hl4, hr4, hl5, hr5⟩ := kFast_at (hr.below hb) k x hx
      have C := hp x (List.mem_of_getElem? hx) wr hb [.int .i64 x.fn, .int .i64 x.entry, .int .i64 x.vals, .int .i64 x.nums, .slice A4 x.ops.length c4, .slice A5 x.exits.length c5] (kFast_K.2 ⟨A4, A5, c4, c5, rfl, hl4, hr4, hl5, hr5⟩)
      simp only [agg1] at C
      cases hq : p x
      · have HN := Lib.hid (not_step ho.out hx hq)
        rw [hq] at C
        clear hx hq
        go_wp2_with fail
        refine C.mono ?_
        rintro e w' ⟨rfl, hb2⟩
        go_wp2
        go_roundw
        case rel => exact ⟨k + 1, by omega, by go_num, HN, bl9⟩
        case measure => simp [intOf]; omega
      · have HE := Lib.hid (show FirstIs p l (k : Int) from .inr ⟨k, x, rfl, hx, hq, take_none ho.out⟩)
        rw [hq] at C
        clear hx hq
        go_wp2_with fail
        refine C.mono ?_
        rintro e w' ⟨rfl, hb2⟩
        go_wp2
        go_ret
        exact ⟨_, rfl, HE.out, bl9⟩
    · obtain rfl : k = l.length := by omega
      have HE := Lib.hid (show FirstIs p l (-1) from .inl ⟨rfl, by have := take_none ho.out; rwa [List.take_length] at this⟩)
      go_wp2
      go_ret
      exact ⟨_, rfl, HE.out, hb⟩
set_option maxHeartbeats 4000000 in
set_option maxRecDepth 100000 in
theorem codeAtI (A : Option Addr) (c : Nat) (l : List DFast) (q : DFast) (w : World) (hr : kFast.Row w A l.length l) (hl : l.length ≤ 1048576) :
    Calls Tryz.prog 149 #[.slice A l.length c, .int .i64 q.fn, .int .i64 q.entry] w fun e w' => ∃ r : Int, e = .returned (.int .i64 r) ∧ FirstIs (fun x => sameC x q) l r ∧ Below w.heap.size w w' := by
  have hS := ((St.start w).made (.cells #[.int .i64 q.fn] 3 (0, 0))).madeAt (.cells #[.int .i64 q.entry] 3 (0, 0)) (w.heap.size + 1) (by simp)
  go_enter Tryz.func149, Tryz.ntmps149
  go_wp2_with fail
  refine (idxFast A c l _ _ (fun x => sameC x q) _ (hr.below hS.bel) hl (fun x hx W hb cs hK => by
    obtain ⟨A4, A5, c4, c5, rfl, _⟩ := kFast_K.1 hK
    exact codeCl A4 A5 c4 c5 x q.fn q.entry w.heap.size (w.heap.size + 1) W (kept hb (hS.cell 1 rfl 0)) (kept hb (hS.cell 0 rfl 0)))).mono ?_
  rintro e w' ⟨r, rfl, hf, hb⟩
  have HF := Lib.hid hf
  clear hf
  go_wp2
  go_ret
  exact ⟨_, rfl, HF.out, (hS.step hb).bel⟩
end Go.Proofs.YthinhlcfpaaldaaGreat.Dat
