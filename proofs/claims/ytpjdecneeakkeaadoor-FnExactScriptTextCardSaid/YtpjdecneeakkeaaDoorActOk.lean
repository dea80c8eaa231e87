/- ActOk, in the program and in the reference. -/
import Derived.Test.YtpjdecneeakkeaaDoorGAct
import Derived.Test.YtpjdecneeakkeaaDoorK1
namespace Go.Proofs.YtpjdecneeakkeaaDoor.Dat
open Go Go.RowKit Go.Proofs.YtpjdecneeakkeaaDoor.Mem
set_option linter.unusedVariables false
set_option linter.unusedSimpArgs false
def onlyB (p q r : Bool) (b y : Int) (bare : Bool) (n : Nat) : Bool := (p || decide (b = 0)) && ((q || (decide (y = 0) && !bare)) && (r || decide ((n : Int) = 0)))
def actB (k a b y : Int) (bare : Bool) (n : Nat) : Bool :=
  if k = 1 then btw a 0 500 && onlyB false false false b y bare n
  else if k = 2 then btw a 0 11 && (btw y 0 3 && onlyB false true false b y bare n)
  else if k = 3 then btw a 0 11 && (btw y 0 3 && (btw b 0 119 && onlyB true true false b y bare n))
  else if k = 4 then btw a 0 11 && onlyB false false false b y bare n
  else if k = 5 then decide (a = 0) && (decide ((n : Int) ≤ 150) && onlyB false false true b y bare n)
  else false
set_option maxHeartbeats 4000000 in
theorem onlyI (p q r : Bool) (k a b y : Int) (bare : Bool) (A : Option Addr) (n c : Nat) (w : World) {z : Bool} (hz : onlyB p q r b y bare n = z) :
    Calls Tryd.prog 69 #[.agg #[.int .i64 k, .int .i64 a, .int .i64 b, .int .i64 y, .bool bare, .slice A n c], .bool p, .bool q, .bool r] w fun e w' => e = .returned (.bool z) ∧ Below w.heap.size w w' := by
  subst hz
  cases p <;> cases q <;> cases r <;> cases bare <;> (go_enter Tryd.func69, Tryd.ntmps69; go_wp2; all_goals (go_ret; refine ⟨ret_bool ?_, (by repeat (first | with_reducible exact Below.refl _ _ | with_reducible assumption | (with_reducible refine bl_set ?_ (by dsimp only; omega) _) | with_reducible refine bl_alloc ?_ _ | with_reducible refine bl_drewN ?_ _ | with_reducible refine bl_drew ?_ | with_reducible refine bl_step ?_ (by with_reducible assumption) | exact Below.refl _ _ | assumption | (refine bl_set ?_ (by dsimp only; omega) _) | refine bl_alloc ?_ _ | refine bl_drewN ?_ _ | refine bl_drew ?_ | refine bl_step ?_ (by assumption)))⟩; rw [Bool.eq_iff_iff]; simp_all [onlyB]))
set_option maxHeartbeats 8000000 in
set_option maxRecDepth 100000 in
theorem actOkI (k a b y : Int) (bare : Bool) (A : Option Addr) (n c : Nat) (w : World) (hn : n ≤ 1048576) {z : Bool} (hz : actB k a b y bare n = z) :
    Calls Tryd.prog 48 #[.agg #[.int .i64 k, .int .i64 a, .int .i64 b, .int .i64 y, .bool bare, .slice A n c]] w fun e w' => e = .returned (.bool z) ∧ Below w.heap.size w w' := by
  subst hz
  by_cases k1 : k = 1
  · subst k1
    go_enter Tryd.func48, Tryd.ntmps48
    go_wp2_with (first | (go_at_call 42; (with_reducible refine (isPlace (r := btw a 0 (12 - 1)) _ rfl (by omega) (by omega)).mono ?_); rintro e w' ⟨rfl, rfl⟩) | (go_at_call 42; (with_reducible refine (isPlace (r := btw b 0 (120 - 1)) _ rfl (by omega) (by omega)).mono ?_); rintro e w' ⟨rfl, rfl⟩) | (go_at_call 35; (with_reducible refine (inRange (r := btw a 0 500) _ rfl).mono ?_); rintro e w' ⟨rfl, rfl⟩) | (go_at_call 35; (with_reducible refine (inRange (r := btw y 0 3) _ rfl).mono ?_); rintro e w' ⟨rfl, rfl⟩) | (go_at_call 69; (with_reducible refine (onlyI _ _ _ _ _ _ _ _ _ _ _ _ rfl).mono ?_); rintro e w' ⟨rfl, hb⟩))
    all_goals (go_ret; refine ⟨ret_bool ?_, (by repeat (first | with_reducible exact Below.refl _ _ | with_reducible assumption | (with_reducible refine bl_set ?_ (by dsimp only; omega) _) | with_reducible refine bl_alloc ?_ _ | with_reducible refine bl_drewN ?_ _ | with_reducible refine bl_drew ?_ | with_reducible refine bl_step ?_ (by with_reducible assumption) | exact Below.refl _ _ | assumption | (refine bl_set ?_ (by dsimp only; omega) _) | refine bl_alloc ?_ _ | refine bl_drewN ?_ _ | refine bl_drew ?_ | refine bl_step ?_ (by assumption)))⟩; rw [Bool.eq_iff_iff]; first | (simp_all [actB, onlyB]; done) | (cases bare <;> by_cases hb0 : b = 0 <;> by_cases hy0 : y = 0 <;> simp_all [actB, onlyB]))
  by_cases k2 : k = 2
  · subst k2
    clear k1
    go_enter Tryd.func48, Tryd.ntmps48
    go_wp2_with (first | (go_at_call 42; (with_reducible refine (isPlace (r := btw a 0 (12 - 1)) _ rfl (by omega) (by omega)).mono ?_); rintro e w' ⟨rfl, rfl⟩) | (go_at_call 42; (with_reducible refine (isPlace (r := btw b 0 (120 - 1)) _ rfl (by omega) (by omega)).mono ?_); rintro e w' ⟨rfl, rfl⟩) | (go_at_call 35; (with_reducible refine (inRange (r := btw a 0 500) _ rfl).mono ?_); rintro e w' ⟨rfl, rfl⟩) | (go_at_call 35; (with_reducible refine (inRange (r := btw y 0 3) _ rfl).mono ?_); rintro e w' ⟨rfl, rfl⟩) | (go_at_call 69; (with_reducible refine (onlyI _ _ _ _ _ _ _ _ _ _ _ _ rfl).mono ?_); rintro e w' ⟨rfl, hb⟩))
    all_goals (go_ret; refine ⟨ret_bool ?_, (by repeat (first | with_reducible exact Below.refl _ _ | with_reducible assumption | (with_reducible refine bl_set ?_ (by dsimp only; omega) _) | with_reducible refine bl_alloc ?_ _ | with_reducible refine bl_drewN ?_ _ | with_reducible refine bl_drew ?_ | with_reducible refine bl_step ?_ (by with_reducible assumption) | exact Below.refl _ _ | assumption | (refine bl_set ?_ (by dsimp only; omega) _) | refine bl_alloc ?_ _ | refine bl_drewN ?_ _ | refine bl_drew ?_ | refine bl_step ?_ (by assumption)))⟩; rw [Bool.eq_iff_iff]; first | (simp_all [actB, onlyB]; done) | (cases bare <;> by_cases hb0 : b = 0 <;> by_cases hy0 : y = 0 <;> simp_all [actB, onlyB]))
  by_cases k3 : k = 3
  · subst k3
    clear k1 k2
    go_enter Tryd.func48, Tryd.ntmps48
    go_wp2_with (first | (go_at_call 42; (with_reducible refine (isPlace (r := btw a 0 (12 - 1)) _ rfl (by omega) (by omega)).mono ?_); rintro e w' ⟨rfl, rfl⟩) | (go_at_call 42; (with_reducible refine (isPlace (r := btw b 0 (120 - 1)) _ rfl (by omega) (by omega)).mono ?_); rintro e w' ⟨rfl, rfl⟩) | (go_at_call 35; (with_reducible refine (inRange (r := btw a 0 500) _ rfl).mono ?_); rintro e w' ⟨rfl, rfl⟩) | (go_at_call 35; (with_reducible refine (inRange (r := btw y 0 3) _ rfl).mono ?_); rintro e w' ⟨rfl, rfl⟩) | (go_at_call 69; (with_reducible refine (onlyI _ _ _ _ _ _ _ _ _ _ _ _ rfl).mono ?_); rintro e w' ⟨rfl, hb⟩))
    all_goals (go_ret; refine ⟨ret_bool ?_, (by repeat (first | with_reducible exact Below.refl _ _ | with_reducible assumption | (with_reducible refine bl_set ?_ (by dsimp only; omega) _) | with_reducible refine bl_alloc ?_ _ | with_reducible refine bl_drewN ?_ _ | with_reducible refine bl_drew ?_ | with_reducible refine bl_step ?_ (by with_reducible assumption) | exact Below.refl _ _ | assumption | (refine bl_set ?_ (by dsimp only; omega) _) | refine bl_alloc ?_ _ | refine bl_drewN ?_ _ | refine bl_drew ?_ | refine bl_step ?_ (by assumption)))⟩; rw [Bool.eq_iff_iff]; first | (simp_all [actB, onlyB]; done) | (cases bare <;> by_cases hb0 : b = 0 <;> by_cases hy0 : y = 0 <;> simp_all [actB, onlyB]))
  by_cases k4 : k = 4
  · subst k4
    clear k1 k2 k3
    go_enter Tryd.func48, Tryd.ntmps48
    go_wp2_with (first | (go_at_call 42; (with_reducible refine (isPlace (r := btw a 0 (12 - 1)) _ rfl (by omega) (by omega)).mono ?_); rintro e w' ⟨rfl, rfl⟩) | (go_at_call 42; (with_reducible refine (isPlace (r := btw b 0 (120 - 1)) _ rfl (by omega) (by omega)).mono ?_); rintro e w' ⟨rfl, rfl⟩) | (go_at_call 35; (with_reducible refine (inRange (r := btw a 0 500) _ rfl).mono ?_); rintro e w' ⟨rfl, rfl⟩) | (go_at_call 35; (with_reducible refine (inRange (r := btw y 0 3) _ rfl).mono ?_); rintro e w' ⟨rfl, rfl⟩) | (go_at_call 69; (with_reducible refine (onlyI _ _ _ _ _ _ _ _ _ _ _ _ rfl).mono ?_); rintro e w' ⟨rfl, hb⟩))
    all_goals (go_ret; refine ⟨ret_bool ?_, (by repeat (first | with_reducible exact Below.refl _ _ | with_reducible assumption | (with_reducible refine bl_set ?_ (by dsimp only; omega) _) | with_reducible refine bl_alloc ?_ _ | with_reducible refine bl_drewN ?_ _ | with_reducible refine bl_drew ?_ | with_reducible refine bl_step ?_ (by with_reducible assumption) | exact Below.refl _ _ | assumption | (refine bl_set ?_ (by dsimp only; omega) _) | refine bl_alloc ?_ _ | refine bl_drewN ?_ _ | refine bl_drew ?_ | refine bl_step ?_ (by assumption)))⟩; rw [Bool.eq_iff_iff]; first | (simp_all [actB, onlyB]; done) | (cases bare <;> by_cases hb0 : b = 0 <;> by_cases hy0 : y = 0 <;> simp_all [actB, onlyB]))
  by_cases k5 : k = 5
  · subst k5
    clear k1 k2 k3 k4
    go_enter Tryd.func48, Tryd.ntmps48
    go_wp2_with (first | (go_at_call 42; (with_reducible refine (isPlace (r := btw a 0 (12 - 1)) _ rfl (by omega) (by omega)).mono ?_); rintro e w' ⟨rfl, rfl⟩) | (go_at_call 42; (with_reducible refine (isPlace (r := btw b 0 (120 - 1)) _ rfl (by omega) (by omega)).mono ?_); rintro e w' ⟨rfl, rfl⟩) | (go_at_call 35; (with_reducible refine (inRange (r := btw a 0 500) _ rfl).mono ?_); rintro e w' ⟨rfl, rfl⟩) | (go_at_call 35; (with_reducible refine (inRange (r := btw y 0 3) _ rfl).mono ?_); rintro e w' ⟨rfl, rfl⟩) | (go_at_call 69; (with_reducible refine (onlyI _ _ _ _ _ _ _ _ _ _ _ _ rfl).mono ?_); rintro e w' ⟨rfl, hb⟩))
    all_goals (go_ret; refine ⟨ret_bool ?_, (by repeat (first | with_reducible exact Below.refl _ _ | with_reducible assumption | (with_reducible refine bl_set ?_ (by dsimp only; omega) _) | with_reducible refine bl_alloc ?_ _ | with_reducible refine bl_drewN ?_ _ | with_reducible refine bl_drew ?_ | with_reducible refine bl_step ?_ (by with_reducible assumption) | exact Below.refl _ _ | assumption | (refine bl_set ?_ (by dsimp only; omega) _) | refine bl_alloc ?_ _ | refine bl_drewN ?_ _ | refine bl_drew ?_ | refine bl_step ?_ (by assumption)))⟩; rw [Bool.eq_iff_iff]; first | (simp_all [actB, onlyB]; done) | (cases bare <;> by_cases hb0 : b = 0 <;> by_cases hy0 : y = 0 <;> simp_all [actB, onlyB]))
  have E := Lib.hid (show actB k a b y bare n = false by simp [actB, k1, k2, k3, k4, k5])
  have m1 : (k == 1) = false := by simpa using k1
  have m2 : (k == 2) = false := by simpa using k2
  have m3 : (k == 3) = false := by simpa using k3
  have m4 : (k == 4) = false := by simpa using k4
  have m5 : (k == 5) = false := by simpa using k5
  clear k1 k2 k3 k4 k5
  go_enter Tryd.func48, Tryd.ntmps48
  go_wp2_with (first | (go_at_call 42; (with_reducible refine (isPlace (r := btw a 0 (12 - 1)) _ rfl (by omega) (by omega)).mono ?_); rintro e w' ⟨rfl, rfl⟩) | (go_at_call 42; (with_reducible refine (isPlace (r := btw b 0 (120 - 1)) _ rfl (by omega) (by omega)).mono ?_); rintro e w' ⟨rfl, rfl⟩) | (go_at_call 35; (with_reducible refine (inRange (r := btw a 0 500) _ rfl).mono ?_); rintro e w' ⟨rfl, rfl⟩) | (go_at_call 35; (with_reducible refine (inRange (r := btw y 0 3) _ rfl).mono ?_); rintro e w' ⟨rfl, rfl⟩) | (go_at_call 69; (with_reducible refine (onlyI _ _ _ _ _ _ _ _ _ _ _ _ rfl).mono ?_); rintro e w' ⟨rfl, hb⟩))
  all_goals (go_ret; exact ⟨ret_bool E.out.symm, (by repeat (first | with_reducible exact Below.refl _ _ | with_reducible assumption | (with_reducible refine bl_set ?_ (by dsimp only; omega) _) | with_reducible refine bl_alloc ?_ _ | with_reducible refine bl_drewN ?_ _ | with_reducible refine bl_drew ?_ | with_reducible refine bl_step ?_ (by with_reducible assumption) | exact Below.refl _ _ | assumption | (refine bl_set ?_ (by dsimp only; omega) _) | refine bl_alloc ?_ _ | refine bl_drewN ?_ _ | refine bl_drew ?_ | refine bl_step ?_ (by assumption)))⟩)
set_option maxHeartbeats 8000000 in
set_option maxRecDepth 100000 in
theorem actOk3 (k a b y : Int) (bare : Bool) (A : Option Addr) (n c : Nat) (w : World) (hn : n ≤ 1048576) {z : Bool} (hz : actB k a b y bare n = z) :
    Calls Tryd.prog 45 #[.agg #[.int .i64 k, .int .i64 a, .int .i64 b, .int .i64 y, .bool bare, .slice A n c]] w fun e w' => e = .returned (.bool z) ∧ Below w.heap.size w w' := by
  subst hz
  by_cases k1 : k = 1
  · subst k1
    go_enter Tryd.func45, Tryd.ntmps45
    go_wp2_with (first | (go_at_call 31; (with_reducible refine (between (r := btw a 0 500) _ rfl).mono ?_); rintro e w' ⟨rfl, rfl⟩) | (go_at_call 31; (with_reducible refine (between (r := btw a 0 11) _ rfl).mono ?_); rintro e w' ⟨rfl, rfl⟩) | (go_at_call 31; (with_reducible refine (between (r := btw b 0 119) _ rfl).mono ?_); rintro e w' ⟨rfl, rfl⟩) | (go_at_call 31; (with_reducible refine (between (r := btw y 0 3) _ rfl).mono ?_); rintro e w' ⟨rfl, rfl⟩))
    all_goals (go_ret; refine ⟨ret_bool ?_, (by repeat (first | with_reducible exact Below.refl _ _ | with_reducible assumption | (with_reducible refine bl_set ?_ (by dsimp only; omega) _) | with_reducible refine bl_alloc ?_ _ | with_reducible refine bl_drewN ?_ _ | with_reducible refine bl_drew ?_ | with_reducible refine bl_step ?_ (by with_reducible assumption) | exact Below.refl _ _ | assumption | (refine bl_set ?_ (by dsimp only; omega) _) | refine bl_alloc ?_ _ | refine bl_drewN ?_ _ | refine bl_drew ?_ | refine bl_step ?_ (by assumption)))⟩; rw [Bool.eq_iff_iff]; first | (simp_all [actB, onlyB]; done) | (cases bare <;> by_cases hb0 : b = 0 <;> by_cases hy0 : y = 0 <;> simp_all [actB, onlyB]))
  by_cases k2 : k = 2
  · subst k2
    clear k1
    go_enter Tryd.func45, Tryd.ntmps45
    go_wp2_with (first | (go_at_call 31; (with_reducible refine (between (r := btw a 0 500) _ rfl).mono ?_); rintro e w' ⟨rfl, rfl⟩) | (go_at_call 31; (with_reducible refine (between (r := btw a 0 11) _ rfl).mono ?_); rintro e w' ⟨rfl, rfl⟩) | (go_at_call 31; (with_reducible refine (between (r := btw b 0 119) _ rfl).mono ?_); rintro e w' ⟨rfl, rfl⟩) | (go_at_call 31; (with_reducible refine (between (r := btw y 0 3) _ rfl).mono ?_); rintro e w' ⟨rfl, rfl⟩))
    all_goals (go_ret; refine ⟨ret_bool ?_, (by repeat (first | with_reducible exact Below.refl _ _ | with_reducible assumption | (with_reducible refine bl_set ?_ (by dsimp only; omega) _) | with_reducible refine bl_alloc ?_ _ | with_reducible refine bl_drewN ?_ _ | with_reducible refine bl_drew ?_ | with_reducible refine bl_step ?_ (by with_reducible assumption) | exact Below.refl _ _ | assumption | (refine bl_set ?_ (by dsimp only; omega) _) | refine bl_alloc ?_ _ | refine bl_drewN ?_ _ | refine bl_drew ?_ | refine bl_step ?_ (by assumption)))⟩; rw [Bool.eq_iff_iff]; first | (simp_all [actB, onlyB]; done) | (cases bare <;> by_cases hb0 : b = 0 <;> by_cases hy0 : y = 0 <;> simp_all [actB, onlyB]))
  by_cases k3 : k = 3
  · subst k3
    clear k1 k2
    go_enter Tryd.func45, Tryd.ntmps45
    go_wp2_with (first | (go_at_call 31; (with_reducible refine (between (r := btw a 0 500) _ rfl).mono ?_); rintro e w' ⟨rfl, rfl⟩) | (go_at_call 31; (with_reducible refine (between (r := btw a 0 11) _ rfl).mono ?_); rintro e w' ⟨rfl, rfl⟩) | (go_at_call 31; (with_reducible refine (between (r := btw b 0 119) _ rfl).mono ?_); rintro e w' ⟨rfl, rfl⟩) | (go_at_call 31; (with_reducible refine (between (r := btw y 0 3) _ rfl).mono ?_); rintro e w' ⟨rfl, rfl⟩))
    all_goals (go_ret; refine ⟨ret_bool ?_, (by repeat (first | with_reducible exact Below.refl _ _ | with_reducible assumption | (with_reducible refine bl_set ?_ (by dsimp only; omega) _) | with_reducible refine bl_alloc ?_ _ | with_reducible refine bl_drewN ?_ _ | with_reducible refine bl_drew ?_ | with_reducible refine bl_step ?_ (by with_reducible assumption) | exact Below.refl _ _ | assumption | (refine bl_set ?_ (by dsimp only; omega) _) | refine bl_alloc ?_ _ | refine bl_drewN ?_ _ | refine bl_drew ?_ | refine bl_step ?_ (by assumption)))⟩; rw [Bool.eq_iff_iff]; first | (simp_all [actB, onlyB]; done) | (cases bare <;> by_cases hb0 : b = 0 <;> by_cases hy0 : y = 0 <;> simp_all [actB, onlyB]))
  by_cases k4 : k = 4
  · subst k4
    clear k1 k2 k3
    go_enter Tryd.func45, Tryd.ntmps45
    go_wp2_with (first | (go_at_call 31; (with_reducible refine (between (r := btw a 0 500) _ rfl).mono ?_); rintro e w' ⟨rfl, rfl⟩) | (go_at_call 31; (with_reducible refine (between (r := btw a 0 11) _ rfl).mono ?_); rintro e w' ⟨rfl, rfl⟩) | (go_at_call 31; (with_reducible refine (between (r := btw b 0 119) _ rfl).mono ?_); rintro e w' ⟨rfl, rfl⟩) | (go_at_call 31; (with_reducible refine (between (r := btw y 0 3) _ rfl).mono ?_); rintro e w' ⟨rfl, rfl⟩))
    all_goals (go_ret; refine ⟨ret_bool ?_, (by repeat (first | with_reducible exact Below.refl _ _ | with_reducible assumption | (with_reducible refine bl_set ?_ (by dsimp only; omega) _) | with_reducible refine bl_alloc ?_ _ | with_reducible refine bl_drewN ?_ _ | with_reducible refine bl_drew ?_ | with_reducible refine bl_step ?_ (by with_reducible assumption) | exact Below.refl _ _ | assumption | (refine bl_set ?_ (by dsimp only; omega) _) | refine bl_alloc ?_ _ | refine bl_drewN ?_ _ | refine bl_drew ?_ | refine bl_step ?_ (by assumption)))⟩; rw [Bool.eq_iff_iff]; first | (simp_all [actB, onlyB]; done) | (cases bare <;> by_cases hb0 : b = 0 <;> by_cases hy0 : y = 0 <;> simp_all [actB, onlyB]))
  by_cases k5 : k = 5
  · subst k5
    clear k1 k2 k3 k4
    go_enter Tryd.func45, Tryd.ntmps45
    go_wp2_with (first | (go_at_call 31; (with_reducible refine (between (r := btw a 0 500) _ rfl).mono ?_); rintro e w' ⟨rfl, rfl⟩) | (go_at_call 31; (with_reducible refine (between (r := btw a 0 11) _ rfl).mono ?_); rintro e w' ⟨rfl, rfl⟩) | (go_at_call 31; (with_reducible refine (between (r := btw b 0 119) _ rfl).mono ?_); rintro e w' ⟨rfl, rfl⟩) | (go_at_call 31; (with_reducible refine (between (r := btw y 0 3) _ rfl).mono ?_); rintro e w' ⟨rfl, rfl⟩))
    all_goals (go_ret; refine ⟨ret_bool ?_, (by repeat (first | with_reducible exact Below.refl _ _ | with_reducible assumption | (with_reducible refine bl_set ?_ (by dsimp only; omega) _) | with_reducible refine bl_alloc ?_ _ | with_reducible refine bl_drewN ?_ _ | with_reducible refine bl_drew ?_ | with_reducible refine bl_step ?_ (by with_reducible assumption) | exact Below.refl _ _ | assumption | (refine bl_set ?_ (by dsimp only; omega) _) | refine bl_alloc ?_ _ | refine bl_drewN ?_ _ | refine bl_drew ?_ | refine bl_step ?_ (by assumption)))⟩; rw [Bool.eq_iff_iff]; first | (simp_all [actB, onlyB]; done) | (cases bare <;> by_cases hb0 : b = 0 <;> by_cases hy0 : y = 0 <;> simp_all [actB, onlyB]))
  have E := Lib.hid (show actB k a b y bare n = false by simp [actB, k1, k2, k3, k4, k5])
  have m1 : (k == 1) = false := by simpa using k1
  have m2 : (k == 2) = false := by simpa using k2
  have m3 : (k == 3) = false := by simpa using k3
  have m4 : (k == 4) = false := by simpa using k4
  have m5 : (k == 5) = false := by simpa using k5
  clear k1 k2 k3 k4 k5
  go_enter Tryd.func45, Tryd.ntmps45
  go_wp2_with (first | (go_at_call 31; (with_reducible refine (between (r := btw a 0 500) _ rfl).mono ?_); rintro e w' ⟨rfl, rfl⟩) | (go_at_call 31; (with_reducible refine (between (r := btw a 0 11) _ rfl).mono ?_); rintro e w' ⟨rfl, rfl⟩) | (go_at_call 31; (with_reducible refine (between (r := btw b 0 119) _ rfl).mono ?_); rintro e w' ⟨rfl, rfl⟩) | (go_at_call 31; (with_reducible refine (between (r := btw y 0 3) _ rfl).mono ?_); rintro e w' ⟨rfl, rfl⟩))
  all_goals (go_ret; exact ⟨ret_bool E.out.symm, (by repeat (first | with_reducible exact Below.refl _ _ | with_reducible assumption | (with_reducible refine bl_set ?_ (by dsimp only; omega) _) | with_reducible refine bl_alloc ?_ _ | with_reducible refine bl_drewN ?_ _ | with_reducible refine bl_drew ?_ | with_reducible refine bl_step ?_ (by with_reducible assumption) | exact Below.refl _ _ | assumption | (refine bl_set ?_ (by dsimp only; omega) _) | refine bl_alloc ?_ _ | refine bl_drewN ?_ _ | refine bl_drew ?_ | refine bl_step ?_ (by assumption)))⟩)
end Go.Proofs.YtpjdecneeakkeaaDoor.Dat
