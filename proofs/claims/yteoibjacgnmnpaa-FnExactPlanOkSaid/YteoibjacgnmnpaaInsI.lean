/- Whether an instruction is as it must be: in the program and in the reference. -/
import Derived.Test.YteoibjacgnmnpaaUses
namespace Go.Proofs.Yteoibjacgnmnpaa.Dat
open Go Go.RowKit Go.Proofs.Yteoibjacgnmnpaa.Mem
set_option linter.unusedVariables false
set_option linter.unusedSimpArgs false
/-- m - 1, as a machine reckons it. -/
def prev (m : Int) : Int := if m = -9223372036854775808 then 9223372036854775807 else m - 1
theorem prev_of {m : Int} (h : m ≠ -9223372036854775808) : prev m = m - 1 := by simp [prev, h]
theorem least64 : wrap64 (-9223372036854775809) = 9223372036854775807 := by kernel_rfl
theorem prev_least : prev (-9223372036854775808) = 9223372036854775807 := if_pos rfl
theorem isPlaceW {n m : Int} {r : Bool} (w : World) (h : btw n 0 (prev m) = r) (h1 : -9223372036854775808 ≤ m) (h2 : m ≤ 9223372036854775807) : Calls Try.prog 171 #[.int .i64 n, .int .i64 m] w fun e w' => e = .returned (.bool r) ∧ w = w' := by
  by_cases hm : m = -9223372036854775808
  · subst hm
    rw [prev_least] at h
    go_enter Try.func171, Try.ntmps171
    go_wp2_with fail
    refine (inRange (r := r) (c := wrap64 (-9223372036854775809)) _ (by rw [least64]; exact h)).mono ?_; rintro e w' ⟨rfl, rfl⟩
    go_wp2
    go_ret
    exact ⟨rfl, rfl⟩
  · have e := prev_of hm
    rw [e] at h
    have h3 : -9223372036854775807 ≤ m := by omega
    clear e hm
    go_enter Try.func171, Try.ntmps171
    go_wp2_with (go_at_call 127; refine (inRange _ h).mono ?_; rintro e w' ⟨rfl, rfl⟩)
    go_ret
    exact ⟨rfl, rfl⟩
/-- The reference's l01Between(n, 0, m - 1) is asked at m - 1. -/
def insB (nt nf loc len op a : Int) : Bool :=
  if op = 1 then btw a (-1000000000) 1000000000 else if op = 2 then btw a 0 1 else if op = 3 then btw a 0 (nt - 1) else if op = 5 ∨ op = 24 then btw a 0 (nf - 1) else if op = 6 ∨ op = 7 then btw a 0 (prev loc)
  else if op = 17 ∨ op = 18 ∨ op = 19 then btw a 0 (len - 1) else if op = 20 then btw a 0 6 else if op = 21 ∨ op = 22 then btw a 0 5 else if op = 23 then btw a 0 6 else btw op 1 26 && decide (a = 0)
theorem insB_last {nt nf loc len op a : Int} {r : Bool} (h : insB nt nf loc len op a = r) (hop : op < 1 ∨ 26 < op) : r = false ∧ btw op 1 26 = false := by
  have hb : btw op 1 26 = false := btw_false.2 (by omega)
  refine ⟨?_, hb⟩
  rw [← h]
  unfold insB
  rw [if_neg (by omega), if_neg (by omega), if_neg (by omega), if_neg (by omega), if_neg (by omega), if_neg (by omega), if_neg (by omega), if_neg (by omega), if_neg (by omega), hb]
  rfl
set_option maxHeartbeats 4000000 in
theorem insI (A B C : Option Addr) (c d k : Nat) (nt nf n : Nat) (pa loc op a : Int) (w : World) {r : Bool} (h : insB nt nf loc n op a = r) (h1 : -9223372036854775808 ≤ loc) (h2 : loc ≤ 9223372036854775807) (h3 : nt ≤ 1048576) (h4 : nf ≤ 1048576) (h5 : n ≤ 1048576) : Calls Try.prog 133 #[.agg #[.slice A nt c, .slice B nf d], .agg #[.int .i64 pa, .int .i64 loc, .slice C n k], .agg #[.int .i64 op, .int .i64 a]] w fun e w' => e = .returned (.bool r) ∧ Below w.heap.size w w' := by
  have hcase : (op = 1 ∨ op = 2 ∨ op = 3 ∨ op = 5 ∨ op = 6 ∨ op = 7 ∨ op = 17 ∨ op = 18 ∨ op = 19 ∨ op = 20 ∨ op = 21 ∨ op = 22 ∨ op = 23 ∨ op = 24) ∨ (op = 4 ∨ op = 8 ∨ op = 9 ∨ op = 10 ∨ op = 11 ∨ op = 12 ∨ op = 13 ∨ op = 14 ∨ op = 15 ∨ op = 16 ∨ op = 25 ∨ op = 26) ∨ (op < 1 ∨ 26 < op) := by omega
  rcases hcase with hc | hc | ho
  · rcases hc with rfl | rfl | rfl | rfl | rfl | rfl | rfl | rfl | rfl | rfl | rfl | rfl | rfl | rfl
    all_goals
      simp [insB] at h
      have H := Lib.hid h
      clear h
      go_enter Try.func133, Try.ntmps133
      go_wp2_with (first | (go_at_call 120; refine (isNum _ H.out).mono ?_; rintro e w' ⟨rfl, rfl⟩) | (go_at_call 127; refine (inRange _ H.out).mono ?_; rintro e w' ⟨rfl, rfl⟩) | (go_at_call 171; refine (isPlaceW _ H.out (by omega) (by omega)).mono ?_; rintro e w' ⟨rfl, rfl⟩) | (go_at_call 171; refine (isPlace _ H.out (by omega) (by omega)).mono ?_; rintro e w' ⟨rfl, rfl⟩))
      go_ret
      exact ⟨rfl, (by repeat (first | exact Below.refl _ _ | assumption | (refine bl_set ?_ (by dsimp only; omega) _) | refine bl_alloc ?_ _ | refine bl_drewN ?_ _ | refine bl_drew ?_ | refine bl_step ?_ (by assumption)))⟩
  · rcases hc with rfl | rfl | rfl | rfl | rfl | rfl | rfl | rfl | rfl | rfl | rfl | rfl
    all_goals
      simp [insB, btw] at h
      by_cases ha : a = 0
      · subst ha
        subst h
        go_enter Try.func133, Try.ntmps133
        go_wp2_with (go_at_call 127; refine (inRange (r := true) _ (by decide)).mono ?_; rintro e w' ⟨rfl, rfl⟩)
        go_ret
        exact ⟨rfl, (by repeat (first | exact Below.refl _ _ | assumption | (refine bl_set ?_ (by dsimp only; omega) _) | refine bl_alloc ?_ _ | refine bl_drewN ?_ _ | refine bl_drew ?_ | refine bl_step ?_ (by assumption)))⟩
      · have ha2 : (a == 0) = false := by simpa using ha
        simp [ha] at h
        subst h
        clear ha
        go_enter Try.func133, Try.ntmps133
        go_wp2_with (go_at_call 127; refine (inRange (r := true) _ (by decide)).mono ?_; rintro e w' ⟨rfl, rfl⟩)
        go_ret
        exact ⟨rfl, (by repeat (first | exact Below.refl _ _ | assumption | (refine bl_set ?_ (by dsimp only; omega) _) | refine bl_alloc ?_ _ | refine bl_drewN ?_ _ | refine bl_drew ?_ | refine bl_step ?_ (by assumption)))⟩
  · obtain ⟨rfl, hb⟩ := insB_last h ho
    clear h
    have m1 : (op == 1) = false := by simp; omega
    have m2 : (op == 2) = false := by simp; omega
    have m3 : (op == 3) = false := by simp; omega
    have m4 : (op == 4) = false := by simp; omega
    have m5 : (op == 5) = false := by simp; omega
    have m6 : (op == 6) = false := by simp; omega
    have m7 : (op == 7) = false := by simp; omega
    have m8 : (op == 8) = false := by simp; omega
    have m9 : (op == 9) = false := by simp; omega
    have m10 : (op == 10) = false := by simp; omega
    have m11 : (op == 11) = false := by simp; omega
    have m12 : (op == 12) = false := by simp; omega
    have m13 : (op == 13) = false := by simp; omega
    have m14 : (op == 14) = false := by simp; omega
    have m15 : (op == 15) = false := by simp; omega
    have m16 : (op == 16) = false := by simp; omega
    have m17 : (op == 17) = false := by simp; omega
    have m18 : (op == 18) = false := by simp; omega
    have m19 : (op == 19) = false := by simp; omega
    have m20 : (op == 20) = false := by simp; omega
    have m21 : (op == 21) = false := by simp; omega
    have m22 : (op == 22) = false := by simp; omega
    have m23 : (op == 23) = false := by simp; omega
    have m24 : (op == 24) = false := by simp; omega
    have m25 : (op == 25) = false := by simp; omega
    have m26 : (op == 26) = false := by simp; omega
    clear ho
    go_enter Try.func133, Try.ntmps133
    go_wp2_with (go_at_call 127; refine (inRange _ hb).mono ?_; rintro e w' ⟨rfl, rfl⟩)
    go_ret
    exact ⟨rfl, (by repeat (first | exact Below.refl _ _ | assumption | (refine bl_set ?_ (by dsimp only; omega) _) | refine bl_alloc ?_ _ | refine bl_drewN ?_ _ | refine bl_drew ?_ | refine bl_step ?_ (by assumption)))⟩
end Go.Proofs.Yteoibjacgnmnpaa.Dat
