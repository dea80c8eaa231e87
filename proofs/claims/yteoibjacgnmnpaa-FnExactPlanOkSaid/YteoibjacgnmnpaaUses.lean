/- What an instruction takes and lays: UsesOf, in the program and in the reference. -/
import Derived.Test.YteoibjacgnmnpaaRange
import Derived.Test.YteoibjacgnmnpaaDat
namespace Go.Proofs.Yteoibjacgnmnpaa.Dat
open Go Go.RowKit Go.Proofs.Yteoibjacgnmnpaa.Mem
set_option linter.unusedVariables false
set_option linter.unusedSimpArgs false
def uses (l : List DFunc) (op a : Int) : Int × Int :=
  if 1 ≤ op ∧ op ≤ 6 ∨ op = 20 then (0, 1) else if op = 7 ∨ op = 9 ∨ op = 18 ∨ op = 19 ∨ op = 25 ∨ op = 26 then (1, 0) else if op = 8 then (1, 2) else if op = 10 then (2, 2) else if 11 ≤ op ∧ op ≤ 15 then (2, 1)
  else if op = 16 ∨ op = 21 then (1, 1) else if op = 22 then (2, 0) else if op = 23 ∧ 0 ≤ a ∧ a ≤ 6 then (a + 1, 1) else if op = 24 ∧ 0 ≤ a ∧ a < l.length then ((l.getD a.toNat zFunc).params, 1) else (0, 0)
theorem ret_uses {l : List DFunc} {op a x y : Int} (h : uses l op a = (x, y)) : Ending.returned (.tuple #[.int .i64 x, .int .i64 y]) = .returned (.tuple #[.int .i64 (uses l op a).1, .int .i64 (uses l op a).2]) := by rw [h]
theorem uses_23n (l : List DFunc) (a : Int) (h : ¬ (0 ≤ a ∧ a ≤ 6)) : uses l 23 a = (0, 0) := by
  unfold uses
  rw [if_neg (by omega), if_neg (by omega), if_neg (by omega), if_neg (by omega), if_neg (by omega), if_neg (by omega), if_neg (by omega), if_neg (by omega), if_neg (by omega)]
theorem get_exU {α : Type} (l : List α) (k : Nat) (h : k < l.length) : ∃ x, l[k]? = some x := ⟨l[k], List.getElem?_eq_getElem h⟩
theorem uses_24 (l : List DFunc) (k : Nat) (x : DFunc) (hx : l[k]? = some x) : uses l 24 k = (x.params, 1) := by
  have hk : k < l.length := (List.getElem?_eq_some_iff.1 hx).1
  unfold uses
  rw [if_neg (by omega), if_neg (by omega), if_neg (by omega), if_neg (by omega), if_neg (by omega), if_neg (by omega), if_neg (by omega), if_neg (by omega), if_pos (by omega)]
  simp [List.getD_eq_getElem?_getD, hx]
theorem uses_24n (l : List DFunc) (a : Int) (h : ¬ (0 ≤ a ∧ a ≤ (l.length : Int) - 1)) : uses l 24 a = (0, 0) := by
  unfold uses
  rw [if_neg (by omega), if_neg (by omega), if_neg (by omega), if_neg (by omega), if_neg (by omega), if_neg (by omega), if_neg (by omega), if_neg (by omega), if_neg (by omega)]

set_option maxHeartbeats 4000000 in
theorem usesI (A B : Option Addr) (c d : Nat) (t : List ByteArray) (l : List DFunc) (op a : Int) (w : World) (hr : kFunc.Row w B l.length l) (hm : l.length ≤ 1048576) : Calls Try.prog 184 #[.agg #[.slice A t.length c, .slice B l.length d], .agg #[.int .i64 op, .int .i64 a]] w fun e w' => e = .returned (.tuple #[.int .i64 (uses l op a).1, .int .i64 (uses l op a).2]) ∧ Below w.heap.size w w' := by
  have hcase : (op = 1 ∨ op = 2 ∨ op = 3 ∨ op = 4 ∨ op = 5 ∨ op = 6 ∨ op = 7 ∨ op = 8 ∨ op = 9 ∨ op = 10 ∨ op = 11 ∨ op = 12 ∨ op = 13 ∨ op = 14 ∨ op = 15 ∨ op = 16 ∨ op = 17 ∨ op = 18 ∨ op = 19 ∨ op = 20 ∨ op = 21 ∨ op = 22 ∨ op = 25 ∨ op = 26) ∨ op = 23 ∨ op = 24 ∨ (op < 1 ∨ 26 < op) := by omega
  rcases hcase with hc | rfl | rfl | ho
  · rcases hc with rfl | rfl | rfl | rfl | rfl | rfl | rfl | rfl | rfl | rfl | rfl | rfl | rfl | rfl | rfl | rfl | rfl | rfl | rfl | rfl | rfl | rfl | rfl | rfl
    all_goals
      go_enter Try.func184, Try.ntmps184
      go_wp2_with (first | (go_at_call 127; refine (inRange (r := true) _ (by first | decide | assumption)).mono ?_; rintro e w' ⟨rfl, rfl⟩) | (go_at_call 127; refine (inRange (r := false) _ (by first | decide | assumption)).mono ?_; rintro e w' ⟨rfl, rfl⟩) | (go_at_call 171; refine (isPlace _ (by assumption) (by omega) (by omega)).mono ?_; rintro e w' ⟨rfl, rfl⟩))
      go_ret2
      exact ⟨by simp [uses], (by repeat (first | exact Below.refl _ _ | assumption | (refine bl_set ?_ (by dsimp only; omega) _) | refine bl_alloc ?_ _ | refine bl_drewN ?_ _ | refine bl_drew ?_ | refine bl_step ?_ (by assumption)))⟩
  · cases ha : btw a 0 6
    · have HA := Lib.hid (btw_false.1 ha)
      go_enter Try.func184, Try.ntmps184
      go_wp2_with (first | (go_at_call 127; refine (inRange (r := true) _ (by first | decide | assumption)).mono ?_; rintro e w' ⟨rfl, rfl⟩) | (go_at_call 127; refine (inRange (r := false) _ (by first | decide | assumption)).mono ?_; rintro e w' ⟨rfl, rfl⟩) | (go_at_call 171; refine (isPlace _ (by assumption) (by omega) (by omega)).mono ?_; rintro e w' ⟨rfl, rfl⟩))
      go_ret2
      exact ⟨ret_uses (uses_23n _ _ HA.out), (by repeat (first | exact Below.refl _ _ | assumption | (refine bl_set ?_ (by dsimp only; omega) _) | refine bl_alloc ?_ _ | refine bl_drewN ?_ _ | refine bl_drew ?_ | refine bl_step ?_ (by assumption)))⟩
    · have HA := Lib.hid (btw_true.1 ha)
      have b1 : 0 ≤ a := (btw_true.1 ha).1
      have b2 : a ≤ 6 := (btw_true.1 ha).2
      go_enter Try.func184, Try.ntmps184
      go_wp2_with (first | (go_at_call 127; refine (inRange (r := true) _ (by first | decide | assumption)).mono ?_; rintro e w' ⟨rfl, rfl⟩) | (go_at_call 127; refine (inRange (r := false) _ (by first | decide | assumption)).mono ?_; rintro e w' ⟨rfl, rfl⟩) | (go_at_call 171; refine (isPlace _ (by assumption) (by omega) (by omega)).mono ?_; rintro e w' ⟨rfl, rfl⟩))
      go_ret2
      exact ⟨by simp [uses, HA.out], (by repeat (first | exact Below.refl _ _ | assumption | (refine bl_set ?_ (by dsimp only; omega) _) | refine bl_alloc ?_ _ | refine bl_drewN ?_ _ | refine bl_drew ?_ | refine bl_step ?_ (by assumption)))⟩
  · cases ha : btw a 0 ((l.length : Int) - 1)
    · have HA := Lib.hid (btw_false.1 ha)
      go_enter Try.func184, Try.ntmps184
      go_wp2_with (first | (go_at_call 127; refine (inRange (r := true) _ (by first | decide | assumption)).mono ?_; rintro e w' ⟨rfl, rfl⟩) | (go_at_call 127; refine (inRange (r := false) _ (by first | decide | assumption)).mono ?_; rintro e w' ⟨rfl, rfl⟩) | (go_at_call 171; refine (isPlace _ (by assumption) (by omega) (by omega)).mono ?_; rintro e w' ⟨rfl, rfl⟩))
      go_ret2
      exact ⟨ret_uses (uses_24n _ _ HA.out), (by repeat (first | exact Below.refl _ _ | assumption | (refine bl_set ?_ (by dsimp only; omega) _) | refine bl_alloc ?_ _ | refine bl_drewN ?_ _ | refine bl_drew ?_ | refine bl_step ?_ (by assumption)))⟩
    · obtain ⟨b1, b2⟩ := btw_true.1 ha
      obtain ⟨k, rfl⟩ := Int.eq_ofNat_of_zero_le b1
      obtain ⟨x, hx⟩ := get_exU l k (by omega)
      have HX := Lib.hid (uses_24 l k x hx)
      obtain ⟨ad, A2, c2, rfl, q0, q1, q2, _, _⟩ := kFunc_at hr k x hx
      have h0 := World.block_lt_of_cell? w _ q0
      have bk : (k : Int) < l.length := by omega
      clear hx b1 b2
      go_enter Try.func184, Try.ntmps184
      go_wp2_with (first | (go_at_call 127; refine (inRange (r := true) _ (by first | decide | assumption)).mono ?_; rintro e w' ⟨rfl, rfl⟩) | (go_at_call 127; refine (inRange (r := false) _ (by first | decide | assumption)).mono ?_; rintro e w' ⟨rfl, rfl⟩) | (go_at_call 171; refine (isPlace _ (by assumption) (by omega) (by omega)).mono ?_; rintro e w' ⟨rfl, rfl⟩))
      go_ret2
      exact ⟨ret_uses HX.out, (by repeat (first | exact Below.refl _ _ | assumption | (refine bl_set ?_ (by dsimp only; omega) _) | refine bl_alloc ?_ _ | refine bl_drewN ?_ _ | refine bl_drew ?_ | refine bl_step ?_ (by assumption)))⟩
  · have e : uses l op a = (0, 0) := by
      unfold uses
      rw [if_neg (by omega), if_neg (by omega), if_neg (by omega), if_neg (by omega), if_neg (by omega), if_neg (by omega), if_neg (by omega), if_neg (by omega), if_neg (by omega)]
    have HE := Lib.hid e
    have n1 : btw op 1 6 = false := btw_false.2 (by omega)
    have n2 : btw op 11 15 = false := btw_false.2 (by omega)
    clear e
    have m1 : (op == 1) = false := by simp; omega
    have m2 : (op == 2) = false := by simp; omega
    have m3 : (op == 3) = false := by simp; omega
    have m4 : (op == 4) = false := by simp; omega
    have m5 : (op == 5) = false := by simp; omega
    have m6 : (op == 6) = false := by simp; omega
    have m7 : (op == 7) = false := by simp; omega
    have m8 : (op == 8) = false := by simp; omega
    have m9 : (op == 9) = false := by simp; omega
    have m10 : (op == 10) = false := by simp; omega
    have m11 : (op == 11) = false := by simp; omega
    have m12 : (op == 12) = false := by simp; omega
    have m13 : (op == 13) = false := by simp; omega
    have m14 : (op == 14) = false := by simp; omega
    have m15 : (op == 15) = false := by simp; omega
    have m16 : (op == 16) = false := by simp; omega
    have m17 : (op == 17) = false := by simp; omega
    have m18 : (op == 18) = false := by simp; omega
    have m19 : (op == 19) = false := by simp; omega
    have m20 : (op == 20) = false := by simp; omega
    have m21 : (op == 21) = false := by simp; omega
    have m22 : (op == 22) = false := by simp; omega
    have m23 : (op == 23) = false := by simp; omega
    have m24 : (op == 24) = false := by simp; omega
    have m25 : (op == 25) = false := by simp; omega
    have m26 : (op == 26) = false := by simp; omega
    clear ho
    go_enter Try.func184, Try.ntmps184
    go_wp2_with (first | (go_at_call 127; refine (inRange (r := true) _ (by first | decide | assumption)).mono ?_; rintro e w' ⟨rfl, rfl⟩) | (go_at_call 127; refine (inRange (r := false) _ (by first | decide | assumption)).mono ?_; rintro e w' ⟨rfl, rfl⟩) | (go_at_call 171; refine (isPlace _ (by assumption) (by omega) (by omega)).mono ?_; rintro e w' ⟨rfl, rfl⟩))
    go_ret2
    exact ⟨ret_uses HE.out, (by repeat (first | exact Below.refl _ _ | assumption | (refine bl_set ?_ (by dsimp only; omega) _) | refine bl_alloc ?_ _ | refine bl_drewN ?_ _ | refine bl_drew ?_ | refine bl_step ?_ (by assumption)))⟩

set_option maxHeartbeats 4000000 in
theorem uses03 (A B : Option Addr) (c d : Nat) (t : List ByteArray) (l : List DFunc) (op a : Int) (w : World) (hr : kFunc.Row w B l.length l) (hm : l.length ≤ 1048576) : Calls Try.prog 153 #[.agg #[.slice A t.length c, .slice B l.length d], .agg #[.int .i64 op, .int .i64 a]] w fun e w' => e = .returned (.tuple #[.int .i64 (uses l op a).1, .int .i64 (uses l op a).2]) ∧ Below w.heap.size w w' := by
  have hcase : (op = 1 ∨ op = 2 ∨ op = 3 ∨ op = 4 ∨ op = 5 ∨ op = 6 ∨ op = 7 ∨ op = 8 ∨ op = 9 ∨ op = 10 ∨ op = 11 ∨ op = 12 ∨ op = 13 ∨ op = 14 ∨ op = 15 ∨ op = 16 ∨ op = 17 ∨ op = 18 ∨ op = 19 ∨ op = 20 ∨ op = 21 ∨ op = 22 ∨ op = 25 ∨ op = 26) ∨ op = 23 ∨ op = 24 ∨ (op < 1 ∨ 26 < op) := by omega
  rcases hcase with hc | rfl | rfl | ho
  · rcases hc with rfl | rfl | rfl | rfl | rfl | rfl | rfl | rfl | rfl | rfl | rfl | rfl | rfl | rfl | rfl | rfl | rfl | rfl | rfl | rfl | rfl | rfl | rfl | rfl
    all_goals
      go_enter Try.func153, Try.ntmps153
      go_wp2_with (first | (go_at_call 124; refine (between (r := true) _ (by first | decide | assumption)).mono ?_; rintro e w' ⟨rfl, rfl⟩) | (go_at_call 124; refine (between (r := false) _ (by first | decide | assumption)).mono ?_; rintro e w' ⟨rfl, rfl⟩))
      go_ret2
      exact ⟨by simp [uses], (by repeat (first | exact Below.refl _ _ | assumption | (refine bl_set ?_ (by dsimp only; omega) _) | refine bl_alloc ?_ _ | refine bl_drewN ?_ _ | refine bl_drew ?_ | refine bl_step ?_ (by assumption)))⟩
  · cases ha : btw a 0 6
    · have HA := Lib.hid (btw_false.1 ha)
      go_enter Try.func153, Try.ntmps153
      go_wp2_with (first | (go_at_call 124; refine (between (r := true) _ (by first | decide | assumption)).mono ?_; rintro e w' ⟨rfl, rfl⟩) | (go_at_call 124; refine (between (r := false) _ (by first | decide | assumption)).mono ?_; rintro e w' ⟨rfl, rfl⟩))
      go_ret2
      exact ⟨ret_uses (uses_23n _ _ HA.out), (by repeat (first | exact Below.refl _ _ | assumption | (refine bl_set ?_ (by dsimp only; omega) _) | refine bl_alloc ?_ _ | refine bl_drewN ?_ _ | refine bl_drew ?_ | refine bl_step ?_ (by assumption)))⟩
    · have HA := Lib.hid (btw_true.1 ha)
      have b1 : 0 ≤ a := (btw_true.1 ha).1
      have b2 : a ≤ 6 := (btw_true.1 ha).2
      go_enter Try.func153, Try.ntmps153
      go_wp2_with (first | (go_at_call 124; refine (between (r := true) _ (by first | decide | assumption)).mono ?_; rintro e w' ⟨rfl, rfl⟩) | (go_at_call 124; refine (between (r := false) _ (by first | decide | assumption)).mono ?_; rintro e w' ⟨rfl, rfl⟩))
      go_ret2
      exact ⟨by simp [uses, HA.out], (by repeat (first | exact Below.refl _ _ | assumption | (refine bl_set ?_ (by dsimp only; omega) _) | refine bl_alloc ?_ _ | refine bl_drewN ?_ _ | refine bl_drew ?_ | refine bl_step ?_ (by assumption)))⟩
  · cases ha : btw a 0 ((l.length : Int) - 1)
    · have HA := Lib.hid (btw_false.1 ha)
      go_enter Try.func153, Try.ntmps153
      go_wp2_with (first | (go_at_call 124; refine (between (r := true) _ (by first | decide | assumption)).mono ?_; rintro e w' ⟨rfl, rfl⟩) | (go_at_call 124; refine (between (r := false) _ (by first | decide | assumption)).mono ?_; rintro e w' ⟨rfl, rfl⟩))
      go_ret2
      exact ⟨ret_uses (uses_24n _ _ HA.out), (by repeat (first | exact Below.refl _ _ | assumption | (refine bl_set ?_ (by dsimp only; omega) _) | refine bl_alloc ?_ _ | refine bl_drewN ?_ _ | refine bl_drew ?_ | refine bl_step ?_ (by assumption)))⟩
    · obtain ⟨b1, b2⟩ := btw_true.1 ha
      obtain ⟨k, rfl⟩ := Int.eq_ofNat_of_zero_le b1
      obtain ⟨x, hx⟩ := get_exU l k (by omega)
      have HX := Lib.hid (uses_24 l k x hx)
      obtain ⟨ad, A2, c2, rfl, q0, q1, q2, _, _⟩ := kFunc_at hr k x hx
      have h0 := World.block_lt_of_cell? w _ q0
      have bk : (k : Int) < l.length := by omega
      clear hx b1 b2
      go_enter Try.func153, Try.ntmps153
      go_wp2_with (first | (go_at_call 124; refine (between (r := true) _ (by first | decide | assumption)).mono ?_; rintro e w' ⟨rfl, rfl⟩) | (go_at_call 124; refine (between (r := false) _ (by first | decide | assumption)).mono ?_; rintro e w' ⟨rfl, rfl⟩))
      go_ret2
      exact ⟨ret_uses HX.out, (by repeat (first | exact Below.refl _ _ | assumption | (refine bl_set ?_ (by dsimp only; omega) _) | refine bl_alloc ?_ _ | refine bl_drewN ?_ _ | refine bl_drew ?_ | refine bl_step ?_ (by assumption)))⟩
  · have e : uses l op a = (0, 0) := by
      unfold uses
      rw [if_neg (by omega), if_neg (by omega), if_neg (by omega), if_neg (by omega), if_neg (by omega), if_neg (by omega), if_neg (by omega), if_neg (by omega), if_neg (by omega)]
    have HE := Lib.hid e
    have n1 : btw op 1 6 = false := btw_false.2 (by omega)
    have n2 : btw op 11 15 = false := btw_false.2 (by omega)
    clear e
    have m1 : (op == 1) = false := by simp; omega
    have m2 : (op == 2) = false := by simp; omega
    have m3 : (op == 3) = false := by simp; omega
    have m4 : (op == 4) = false := by simp; omega
    have m5 : (op == 5) = false := by simp; omega
    have m6 : (op == 6) = false := by simp; omega
    have m7 : (op == 7) = false := by simp; omega
    have m8 : (op == 8) = false := by simp; omega
    have m9 : (op == 9) = false := by simp; omega
    have m10 : (op == 10) = false := by simp; omega
    have m11 : (op == 11) = false := by simp; omega
    have m12 : (op == 12) = false := by simp; omega
    have m13 : (op == 13) = false := by simp; omega
    have m14 : (op == 14) = false := by simp; omega
    have m15 : (op == 15) = false := by simp; omega
    have m16 : (op == 16) = false := by simp; omega
    have m17 : (op == 17) = false := by simp; omega
    have m18 : (op == 18) = false := by simp; omega
    have m19 : (op == 19) = false := by simp; omega
    have m20 : (op == 20) = false := by simp; omega
    have m21 : (op == 21) = false := by simp; omega
    have m22 : (op == 22) = false := by simp; omega
    have m23 : (op == 23) = false := by simp; omega
    have m24 : (op == 24) = false := by simp; omega
    have m25 : (op == 25) = false := by simp; omega
    have m26 : (op == 26) = false := by simp; omega
    clear ho
    go_enter Try.func153, Try.ntmps153
    go_wp2_with (first | (go_at_call 124; refine (between (r := true) _ (by first | decide | assumption)).mono ?_; rintro e w' ⟨rfl, rfl⟩) | (go_at_call 124; refine (between (r := false) _ (by first | decide | assumption)).mono ?_; rintro e w' ⟨rfl, rfl⟩))
    go_ret2
    exact ⟨ret_uses HE.out, (by repeat (first | exact Below.refl _ _ | assumption | (refine bl_set ?_ (by dsimp only; omega) _) | refine bl_alloc ?_ _ | refine bl_drewN ?_ _ | refine bl_drew ?_ | refine bl_step ?_ (by assumption)))⟩
end Go.Proofs.Yteoibjacgnmnpaa.Dat
