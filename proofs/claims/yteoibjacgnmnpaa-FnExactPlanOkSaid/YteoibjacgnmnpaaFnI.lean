/- slices.Contains, IndexFunc, ContainsFunc over whole numbers; the closure's contract is a premise. -/
import Derived.Test.YteoibjacgnmnpaaSt1
import Derived.Test.YteoibjacgnmnpaaIdx
namespace Go.Proofs.Yteoibjacgnmnpaa.Dat
open Go Go.RowKit Go.Proofs.Yteoibjacgnmnpaa.Mem
set_option linter.unusedVariables false
set_option linter.unusedSimpArgs false
/-- What a predicate's closure answers. -/
def Asks {α : Type} (P : Program) (d : Knd α) (mk : List Value → Value) (fn : FuncId) (caps : List Value) (p : α → Bool) (w : World) (l : List α) : Prop := ∀ x ∈ l, ∀ W, Below w.heap.size w W → ∀ cs, d.K W x cs → Calls P fn (mk cs :: caps).toArray W fun e w' => e = .returned (.bool (p x)) ∧ Below W.heap.size W w'
/-- The value of one cell; of a struct. -/
def one1 (cs : List Value) : Value := cs.headD undef
def agg1 (cs : List Value) : Value := .agg cs.toArray
/-- The place of the first one, or -1. -/
def IsIdx {α : Type} (p : α → Bool) (l : List α) (w : World) (e : Ending) (w' : World) : Prop := ∃ r : Int, e = .returned (.int .i64 r) ∧ decide (0 ≤ r) = l.any p ∧ Below w.heap.size w w'
set_option maxHeartbeats 1000000 in
theorem idxFInt (A : Option Addr) (c : Nat) (l : List Int) (p1 p2 : Value) (p : Int → Bool) (w : World) (hr : ((Knd.int .i64)).Row w A l.length l) (hl : l.length ≤ 1048576) (hp : Asks Try.prog (Knd.int .i64) one1 178 [p1, p2] p w l) :
    Calls Try.prog 190 #[.slice A l.length c, .func (.func 178) #[] #[p1, p2]] w (IsIdx p l w) := by
  go_enter Try.func190, Try.ntmps190
  go_wp2
  go_loopw [8] (fun i wr => ∃ k : Nat, k ≤ l.length ∧ i = .int .i64 k ∧ Hid (∀ j x, l[j]? = some x → j < k → p x = false) ∧ Below w.heap.size w wr) (fun i _ => l.length - (intOf i).toNat)
  case atStart => exact ⟨0, by omega, rfl, (fun j x _ h => by omega), Below.refl _ _⟩
  case round =>
    obtain ⟨k, hk, rfl, ho, hb⟩ := hrel
    by_cases hlt : k < l.length
    · obtain ⟨x, hx⟩ := get_exU l k hlt
      obtain ⟨ad, rfl, q0⟩ := (hr.below hb).one k x hx; have C := hp x (List.mem_of_getElem? hx) wr hb [.int .i64 x] rfl; simp only [one1, List.headD] at C
      cases hq : p x
      · have HN := Lib.hid (not_step ho.out hx hq)
        rw [hq] at C
        clear hx hq
        go_wp2_with fail
        refine C.mono ?_
        rintro e w' ⟨rfl, hb2⟩
        go_wp2
        go_roundw
        case rel => exact ⟨k + 1, by omega, by go_num, HN, (by repeat (first | exact Below.refl _ _ | assumption | (refine bl_set ?_ (by dsimp only; omega) _) | refine bl_alloc ?_ _ | refine bl_drewN ?_ _ | refine bl_drew ?_ | refine bl_step ?_ (by assumption)))⟩
        case measure => simp [intOf]; omega
      · have HE := Lib.hid (any_yes (p := p) hx hq)
        rw [hq] at C
        clear hx hq
        go_wp2_with fail
        refine C.mono ?_
        rintro e w' ⟨rfl, hb2⟩
        go_wp2
        go_ret
        exact ⟨_, rfl, by rw [HE.out]; simp, (by repeat (first | exact Below.refl _ _ | assumption | (refine bl_set ?_ (by dsimp only; omega) _) | refine bl_alloc ?_ _ | refine bl_drewN ?_ _ | refine bl_drew ?_ | refine bl_step ?_ (by assumption)))⟩
    · obtain rfl : k = l.length := by omega
      have HE := Lib.hid (any_no (p := p) (fun j x h h2 => ho.out j x h h2))
      go_wp2
      go_ret
      exact ⟨_, rfl, by rw [HE.out]; simp, hb⟩
theorem hasFInt (A : Option Addr) (c : Nat) (l : List Int) (p1 p2 : Value) (p : Int → Bool) (w : World) (hr : ((Knd.int .i64)).Row w A l.length l) (hl : l.length ≤ 1048576) (hp : Asks Try.prog (Knd.int .i64) one1 178 [p1, p2] p w l) :
    Calls Try.prog 177 #[.slice A l.length c, .func (.func 178) #[] #[p1, p2]] w fun e w' => e = .returned (.bool (l.any p)) ∧ Below w.heap.size w w' := by
  go_enter Try.func177, Try.ntmps177
  go_wp2_with fail
  refine (idxFInt A c l _ _ p _ hr hl hp).mono ?_
  rintro e w' ⟨r, rfl, he, hb⟩
  have HE := Lib.hid he
  clear he
  go_wp2
  go_ret
  exact ⟨ret_bool HE.out, (by repeat (first | exact Below.refl _ _ | assumption | (refine bl_set ?_ (by dsimp only; omega) _) | refine bl_alloc ?_ _ | refine bl_drewN ?_ _ | refine bl_drew ?_ | refine bl_step ?_ (by assumption)))⟩
set_option maxHeartbeats 1000000 in
theorem idxInt (A : Option Addr) (c : Nat) (l : List Int) (y : Int) (w : World) (hr : (Knd.int .i64).Row w A l.length l) (hl : l.length ≤ 1048576) :
    Calls Try.prog 189 #[.slice A l.length c, .int .i64 y] w (IsIdx (fun x => decide (x = y)) l w) := by
  go_enter Try.func189, Try.ntmps189
  go_wp2
  go_loopw [8] (fun i wr => ∃ k : Nat, k ≤ l.length ∧ i = .int .i64 k ∧ Hid (∀ j x, l[j]? = some x → j < k → decide (x = y) = false) ∧ w = wr) (fun i _ => l.length - (intOf i).toNat)
  case atStart => exact ⟨0, by omega, rfl, (fun j x _ h => by omega), rfl⟩
  case round =>
    obtain ⟨k, hk, rfl, ho, rfl⟩ := hrel
    by_cases hlt : k < l.length
    · obtain ⟨x, hx⟩ := get_exU l k hlt
      obtain ⟨ad, rfl, q0⟩ := hr.one k x hx
      by_cases hq : x = y
      · have HE := Lib.hid (any_yes (p := fun x => decide (x = y)) hx (decide_eq_true hq))
        subst hq
        clear hx
        go_wp2
        go_ret
        exact ⟨_, rfl, by rw [HE.out]; simp, Below.refl _ _⟩
      · have HN := Lib.hid (not_step ho.out hx (decide_eq_false hq))
        have hq2 : (y == x) = false := by simpa using fun e => hq e.symm
        clear hx
        go_wp2
        go_roundw
        case rel => exact ⟨k + 1, by omega, by go_num, HN, trivial⟩
        case measure => simp [intOf]; omega
    · obtain rfl : k = l.length := by omega
      have HE := Lib.hid (any_no (p := fun x => decide (x = y)) (fun j x h h2 => ho.out j x h h2))
      go_wp2
      go_ret
      exact ⟨_, rfl, by rw [HE.out]; simp, Below.refl _ _⟩
theorem hasInt (A : Option Addr) (c : Nat) (l : List Int) (y : Int) (w : World) (hr : (Knd.int .i64).Row w A l.length l) (hl : l.length ≤ 1048576) :
    Calls Try.prog 176 #[.slice A l.length c, .int .i64 y] w fun e w' => e = .returned (.bool (l.any (fun x => decide (x = y)))) ∧ Below w.heap.size w w' := by
  go_enter Try.func176, Try.ntmps176
  go_wp2_with fail
  refine (idxInt A c l y _ hr hl).mono ?_
  rintro e w' ⟨r, rfl, he, hb⟩
  have HE := Lib.hid he
  clear he
  go_wp2
  go_ret
  exact ⟨ret_bool HE.out, (by repeat (first | exact Below.refl _ _ | assumption | (refine bl_set ?_ (by dsimp only; omega) _) | refine bl_alloc ?_ _ | refine bl_drewN ?_ _ | refine bl_drew ?_ | refine bl_step ?_ (by assumption)))⟩
end Go.Proofs.Yteoibjacgnmnpaa.Dat
