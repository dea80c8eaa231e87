/- Whether a value is as it must be: in the program and in the reference. -/
import Derived.Test.YthinhlcfpaaldaaGreatK1
import Derived.Test.YthinhlcfpaaldaaGreatK4
namespace Go.Proofs.YthinhlcfpaaldaaGreat.Dat
open Go Go.RowKit Go.Proofs.YthinhlcfpaaldaaGreat.Mem
set_option linter.unusedVariables false
set_option linter.unusedSimpArgs false
def noS (s : ByteArray) : Bool := s.toList.isEmpty
def valB (nf nr : Int) (v : DValue) : Bool :=
  if v.k = 0 then decide (v.n = 0) && noS v.s else if v.k = 1 then btw v.n (-1000000000) 1000000000 && noS v.s else if v.k = 2 then btw v.n 0 1 && noS v.s
  else if v.k = 3 then decide (v.n = 0) && textB v.s else if v.k = 4 then btw v.n 0 (nr - 1) && noS v.s else if v.k = 5 then btw v.n 0 (nf - 1) && noS v.s else false
set_option maxHeartbeats 4000000 in
set_option maxRecDepth 100000 in
theorem valI (nf nr : Int) (v : DValue) (w : World) (hs : v.s.size ≤ maxLen) (h1 : 0 ≤ nf) (h2 : nf ≤ 1048576) (h3 : 0 ≤ nr) (h4 : nr ≤ 1048576) : Calls Tryz.prog 249 #[.agg #[.int .i64 v.k, .int .i64 v.n, .string v.s], .int .i64 nf, .int .i64 nr] w fun e w' => e = .returned (.bool (valB nf nr v)) ∧ Below w.heap.size w w' := by
  obtain ⟨k, n, s⟩ := v
  by_cases k0 : k = 0
  · subst k0
    go_enter Tryz.func249, Tryz.ntmps249
    go_wp2
    all_goals (go_ret; refine ⟨ret_bool ?_, bl9⟩; rw [Bool.eq_iff_iff]; simp_all [valB, noS])
  by_cases k1 : k = 1
  · subst k1
    clear k0
    go_enter Tryz.func249, Tryz.ntmps249
    go_wp2_with (go_at_call 327; (with_reducible refine (isNum (r := btw n (-1000000000) 1000000000) _ rfl).mono ?_); rintro e w' ⟨rfl, rfl⟩)
    all_goals (go_ret; refine ⟨ret_bool ?_, bl9⟩; rw [Bool.eq_iff_iff]; simp_all [valB, noS])
  by_cases k2 : k = 2
  · subst k2
    clear k0 k1
    go_enter Tryz.func249, Tryz.ntmps249
    go_wp2_with (go_at_call 153; (with_reducible refine (inRange (r := btw n 0 1) _ rfl).mono ?_); rintro e w' ⟨rfl, rfl⟩)
    all_goals (go_ret; refine ⟨ret_bool ?_, bl9⟩; rw [Bool.eq_iff_iff]; simp_all [valB, noS])
  by_cases k3 : k = 3
  · subst k3
    clear k0 k1 k2
    go_enter Tryz.func249, Tryz.ntmps249
    go_wp2_with (go_at_call 246; (with_reducible refine (textI s _ hs).mono ?_); rintro e w' ⟨rfl, rfl⟩)
    all_goals (go_ret; refine ⟨ret_bool ?_, bl9⟩; rw [Bool.eq_iff_iff]; simp_all [valB, noS])
  by_cases k4 : k = 4
  · subst k4
    clear k0 k1 k2 k3
    go_enter Tryz.func249, Tryz.ntmps249
    go_wp2_with (go_at_call 122; (with_reducible refine (isPlace (r := btw n 0 (nr - 1)) _ rfl (by omega) (by omega)).mono ?_); rintro e w' ⟨rfl, rfl⟩)
    all_goals (go_ret; refine ⟨ret_bool ?_, bl9⟩; rw [Bool.eq_iff_iff]; simp_all [valB, noS])
  by_cases k5 : k = 5
  · subst k5
    clear k0 k1 k2 k3 k4
    go_enter Tryz.func249, Tryz.ntmps249
    go_wp2_with (go_at_call 122; (with_reducible refine (isPlace (r := btw n 0 (nf - 1)) _ rfl (by omega) (by omega)).mono ?_); rintro e w' ⟨rfl, rfl⟩)
    all_goals (go_ret; refine ⟨ret_bool ?_, bl9⟩; rw [Bool.eq_iff_iff]; simp_all [valB, noS])
  have m0 : (k == 0) = false := by simpa using k0
  have m1 : (k == 1) = false := by simpa using k1
  have m2 : (k == 2) = false := by simpa using k2
  have m3 : (k == 3) = false := by simpa using k3
  have m4 : (k == 4) = false := by simpa using k4
  have m5 : (k == 5) = false := by simpa using k5
  have E := Lib.hid (show valB nf nr ⟨k, n, s⟩ = false by simp [valB, k0, k1, k2, k3, k4, k5])
  clear k0 k1 k2 k3 k4 k5
  go_enter Tryz.func249, Tryz.ntmps249
  go_wp2
  all_goals (go_ret; exact ⟨ret_bool E.out.symm, bl9⟩)
theorem l04NumV (n : Int) (w : World) : Calls Tryz.prog 267 #[.int .i64 n] w fun e w' => e = .returned (.bool (btw n (-1000000000) 1000000000)) ∧ w = w' := by
  go_enter Tryz.func267, Tryz.ntmps267
  go_wp2_with (go_at_call 121; (with_reducible refine (between (r := btw n (-1000000000) 1000000000) _ rfl).mono ?_); rintro e w' ⟨rfl, rfl⟩)
  go_ret
  exact ⟨rfl, rfl⟩
set_option maxHeartbeats 4000000 in
set_option maxRecDepth 100000 in
theorem val3 (nf nr : Int) (A B : Option Addr) (c d nt nl : Nat) (v : DValue) (w : World) (hs : v.s.size ≤ maxLen) (h1 : 0 ≤ nf) (h2 : nf ≤ 1048576) (h3 : 0 ≤ nr) (h4 : nr ≤ 1048576) (hnl : (nl : Int) = nf) : Calls Tryz.prog 183 #[.agg #[.slice A nt c, .slice B nl d], .agg #[.int .i64 v.k, .int .i64 v.n, .string v.s], .int .i64 nr] w fun e w' => e = .returned (.bool (valB nf nr v)) ∧ Below w.heap.size w w' := by
  obtain ⟨k, n, s⟩ := v
  subst hnl
  by_cases k0 : k = 0
  · subst k0
    go_enter Tryz.func183, Tryz.ntmps183
    go_wp2
    all_goals (go_ret; refine ⟨ret_bool ?_, bl9⟩; rw [Bool.eq_iff_iff]; simp_all [valB, noS])
  by_cases k1 : k = 1
  · subst k1
    clear k0
    go_enter Tryz.func183, Tryz.ntmps183
    go_wp2_with (go_at_call 267; (with_reducible refine (l04NumV n _).mono ?_); rintro e w' ⟨rfl, rfl⟩)
    all_goals (go_ret; refine ⟨ret_bool ?_, bl9⟩; rw [Bool.eq_iff_iff]; simp_all [valB, noS])
  by_cases k2 : k = 2
  · subst k2
    clear k0 k1
    go_enter Tryz.func183, Tryz.ntmps183
    go_wp2_with (go_at_call 121; (with_reducible refine (between (r := btw n 0 1) _ rfl).mono ?_); rintro e w' ⟨rfl, rfl⟩)
    all_goals (go_ret; refine ⟨ret_bool ?_, bl9⟩; rw [Bool.eq_iff_iff]; simp_all [valB, noS])
  by_cases k3 : k = 3
  · subst k3
    clear k0 k1 k2
    go_enter Tryz.func183, Tryz.ntmps183
    go_wp2_with (go_at_call 185; (with_reducible refine (text01 s _ hs).mono ?_); rintro e w' ⟨rfl, rfl⟩)
    all_goals (go_ret; refine ⟨ret_bool ?_, bl9⟩; rw [Bool.eq_iff_iff]; simp_all [valB, noS])
  by_cases k4 : k = 4
  · subst k4
    clear k0 k1 k2 k3
    go_enter Tryz.func183, Tryz.ntmps183
    go_wp2
    all_goals (go_ret; refine ⟨ret_bool ?_, bl9⟩; rw [Bool.eq_iff_iff]; simp_all [valB, noS, btw]; try omega)
  by_cases k5 : k = 5
  · subst k5
    clear k0 k1 k2 k3 k4
    go_enter Tryz.func183, Tryz.ntmps183
    go_wp2_with (go_at_call 121; (with_reducible refine (between (r := btw n 0 ((nl : Int) - 1)) _ rfl).mono ?_); rintro e w' ⟨rfl, rfl⟩)
    all_goals (go_ret; refine ⟨ret_bool ?_, bl9⟩; rw [Bool.eq_iff_iff]; simp_all [valB, noS])
  have m0 : (k == 0) = false := by simpa using k0
  have m1 : (k == 1) = false := by simpa using k1
  have m2 : (k == 2) = false := by simpa using k2
  have m3 : (k == 3) = false := by simpa using k3
  have m4 : (k == 4) = false := by simpa using k4
  have m5 : (k == 5) = false := by simpa using k5
  have E := Lib.hid (show valB (nl : Int) nr ⟨k, n, s⟩ = false by simp [valB, k0, k1, k2, k3, k4, k5])
  have m3' : (k != 3) = true := by simpa using k3
  clear k0 k1 k2 k3 k4 k5
  go_enter Tryz.func183, Tryz.ntmps183
  go_wp2
  all_goals (go_ret; exact ⟨ret_bool E.out.symm, bl9⟩)
end Go.Proofs.YthinhlcfpaaldaaGreat.Dat
