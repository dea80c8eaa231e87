/- Values: sums, differences and products, in the program and in the reference. -/
import Derived.Test.YtpjdecneeakkeaaVal
namespace Go.Proofs.Ytpjdecneeakkeaa.Val
open Go Go.RowKit Go.Proofs.Ytpjdecneeakkeaa.Mem
set_option linter.unusedVariables false
set_option linter.unusedSimpArgs false
theorem isNum_of {n : Int} (h : isNumB n = true) : -1000000000 ≤ n ∧ n ≤ 1000000000 := btw_true.1 h
theorem isNum_b {n : Int} {r : Bool} (w : World) (h : isNumB n = r) : Calls Try.prog 164 #[.int .i64 n] w fun e w' => e = .returned (.bool r) ∧ w = w' := h ▸ isNum n w
theorem num04_b {n : Int} {r : Bool} (w : World) (h : isNumB n = r) : Calls Try.prog 191 #[.int .i64 n] w fun e w' => e = .returned (.bool r) ∧ w = w' := h ▸ num04 n w
theorem mul_bound {a b : Int} (h1 : -1000000000 ≤ a ∧ a ≤ 1000000000) (h2 : -1000000000 ≤ b ∧ b ≤ 1000000000) : -1000000000000000000 ≤ a * b ∧ a * b ≤ 1000000000000000000 := by
  have h : (a * b).natAbs ≤ 1000000000 * 1000000000 := by
    rw [Int.natAbs_mul]
    exact Nat.mul_le_mul (by omega) (by omega)
  omega
def arV (f : Int → Int → Int) (a b : V) : V := if a.k = 1 ∧ b.k = 1 then (if isNumB a.n = true ∧ isNumB b.n = true ∧ isNumB (f a.n b.n) = true then intV (f a.n b.n) else V.zero) else V.zero
def arT (f : Int → Int → Int) (a b : V) : Int := if a.k = 1 ∧ b.k = 1 then (if isNumB a.n = true ∧ isNumB b.n = true ∧ isNumB (f a.n b.n) = true then 0 else 2) else 1

theorem fmul (a b : Int) (w : World) (ha : isNumB a = true) (hb : isNumB b = true) : Calls Try.prog 78 #[.int .i64 a, .int .i64 b] w fun e w' => e = .returned (.int .i64 (a * b)) ∧ w = w' := by
  have h1 := isNum_of ha
  have h2 := isNum_of hb
  have h3 : -1000000000000000000 ≤ a * b ∧ a * b ≤ 1000000000000000000 := mul_bound h1 h2
  clear ha hb
  obtain ⟨h4, h5⟩ := h1
  obtain ⟨h6, h7⟩ := h2
  obtain ⟨h8, h9⟩ := h3
  go_enter Try.func78, Try.ntmps78
  go_wp2
  go_ret
  exact ⟨rfl, rfl⟩
theorem counted_mul (ak an : Int) (as_ : ByteArray) (bk bn : Int) (bs : ByteArray) (w : World) : Calls Try.prog 76 #[.agg #[.int .i64 ak, .int .i64 an, .string as_], .agg #[.int .i64 bk, .int .i64 bn, .string bs], .func (.func 78) #[] #[]] w fun e w' => e = .returned (.tuple #[.agg #[.int .i64 (arV (· * ·) ⟨ak, an, as_⟩ ⟨bk, bn, bs⟩).k, .int .i64 (arV (· * ·) ⟨ak, an, as_⟩ ⟨bk, bn, bs⟩).n, .string (arV (· * ·) ⟨ak, an, as_⟩ ⟨bk, bn, bs⟩).s], .int .i64 (arT (· * ·) ⟨ak, an, as_⟩ ⟨bk, bn, bs⟩)]) ∧ Below w.heap.size w w' := by
  by_cases hk : ak = 1 ∧ bk = 1
  · obtain ⟨rfl, rfl⟩ := hk
    cases ha : isNumB an
    · go_enter Try.func76, Try.ntmps76
      go_wp2_with (first | (go_at_call 75; refine (both _ _ _ _ _ _ _ _).mono ?_; rintro e w' ⟨rfl, hb⟩; obtain ⟨hc, hf⟩ := bcell hb; have hz := hb.size; (try simp at hz); (try have hz0 : w.heap.size < w'.heap.size := by omega); (try have hz1 : w.heap.size + 1 < w'.heap.size := by omega); (try have hz2 : w.heap.size + 1 + 1 < w'.heap.size := by omega)) | (go_at_call 164; refine (isNum_b _ (by assumption)).mono ?_; rintro e w' ⟨rfl, rfl⟩) | (go_at_call 165; refine (intOf _ _).mono ?_; rintro e w' ⟨rfl, hb⟩; obtain ⟨hc, hf⟩ := bcell hb; have hz := hb.size; (try simp at hz); (try have hz0 : w.heap.size < w'.heap.size := by omega); (try have hz1 : w.heap.size + 1 < w'.heap.size := by omega); (try have hz2 : w.heap.size + 1 + 1 < w'.heap.size := by omega)))
      refine bodyPost_ret (v := .tuple #[.agg #[.int .i64 (arV (· * ·) ⟨1, an, as_⟩ ⟨1, bn, bs⟩).k, .int .i64 (arV (· * ·) ⟨1, an, as_⟩ ⟨1, bn, bs⟩).n, .string (arV (· * ·) ⟨1, an, as_⟩ ⟨1, bn, bs⟩).s], .int .i64 (arT (· * ·) ⟨1, an, as_⟩ ⟨1, bn, bs⟩)]) (by simp [results, Try.results76, go_sem, arV, arT, V.zero, intV, *]) rfl ⟨rfl, (by repeat (first | with_reducible exact Below.refl _ _ | with_reducible assumption | (with_reducible refine bl_set ?_ (by dsimp only; omega) _) | with_reducible refine bl_alloc ?_ _ | with_reducible refine bl_drewN ?_ _ | with_reducible refine bl_drew ?_ | with_reducible refine bl_step ?_ (by with_reducible assumption) | exact Below.refl _ _ | assumption | (refine bl_set ?_ (by dsimp only; omega) _) | refine bl_alloc ?_ _ | refine bl_drewN ?_ _ | refine bl_drew ?_ | refine bl_step ?_ (by assumption)))⟩
    · cases hn : isNumB bn
      · go_enter Try.func76, Try.ntmps76
        go_wp2_with (first | (go_at_call 75; refine (both _ _ _ _ _ _ _ _).mono ?_; rintro e w' ⟨rfl, hb⟩; obtain ⟨hc, hf⟩ := bcell hb; have hz := hb.size; (try simp at hz); (try have hz0 : w.heap.size < w'.heap.size := by omega); (try have hz1 : w.heap.size + 1 < w'.heap.size := by omega); (try have hz2 : w.heap.size + 1 + 1 < w'.heap.size := by omega)) | (go_at_call 164; refine (isNum_b _ (by assumption)).mono ?_; rintro e w' ⟨rfl, rfl⟩) | (go_at_call 165; refine (intOf _ _).mono ?_; rintro e w' ⟨rfl, hb⟩; obtain ⟨hc, hf⟩ := bcell hb; have hz := hb.size; (try simp at hz); (try have hz0 : w.heap.size < w'.heap.size := by omega); (try have hz1 : w.heap.size + 1 < w'.heap.size := by omega); (try have hz2 : w.heap.size + 1 + 1 < w'.heap.size := by omega)))
        refine bodyPost_ret (v := .tuple #[.agg #[.int .i64 (arV (· * ·) ⟨1, an, as_⟩ ⟨1, bn, bs⟩).k, .int .i64 (arV (· * ·) ⟨1, an, as_⟩ ⟨1, bn, bs⟩).n, .string (arV (· * ·) ⟨1, an, as_⟩ ⟨1, bn, bs⟩).s], .int .i64 (arT (· * ·) ⟨1, an, as_⟩ ⟨1, bn, bs⟩)]) (by simp [results, Try.results76, go_sem, arV, arT, V.zero, intV, *]) rfl ⟨rfl, (by repeat (first | with_reducible exact Below.refl _ _ | with_reducible assumption | (with_reducible refine bl_set ?_ (by dsimp only; omega) _) | with_reducible refine bl_alloc ?_ _ | with_reducible refine bl_drewN ?_ _ | with_reducible refine bl_drew ?_ | with_reducible refine bl_step ?_ (by with_reducible assumption) | exact Below.refl _ _ | assumption | (refine bl_set ?_ (by dsimp only; omega) _) | refine bl_alloc ?_ _ | refine bl_drewN ?_ _ | refine bl_drew ?_ | refine bl_step ?_ (by assumption)))⟩
      · cases hr : isNumB (an * bn)
        · go_enter Try.func76, Try.ntmps76
          go_wp2_with (first | (go_at_call 75; refine (both _ _ _ _ _ _ _ _).mono ?_; rintro e w' ⟨rfl, hb⟩; obtain ⟨hc, hf⟩ := bcell hb; have hz := hb.size; (try simp at hz); (try have hz0 : w.heap.size < w'.heap.size := by omega); (try have hz1 : w.heap.size + 1 < w'.heap.size := by omega); (try have hz2 : w.heap.size + 1 + 1 < w'.heap.size := by omega)) | (go_at_call 164; refine (isNum_b _ (by assumption)).mono ?_; rintro e w' ⟨rfl, rfl⟩) | (go_at_call 165; refine (intOf _ _).mono ?_; rintro e w' ⟨rfl, hb⟩; obtain ⟨hc, hf⟩ := bcell hb; have hz := hb.size; (try simp at hz); (try have hz0 : w.heap.size < w'.heap.size := by omega); (try have hz1 : w.heap.size + 1 < w'.heap.size := by omega); (try have hz2 : w.heap.size + 1 + 1 < w'.heap.size := by omega)))
          refine (fmul _ _ _ ha hn).mono ?_
          rintro e w'' ⟨rfl, rfl⟩
          go_wp2_with (first | (go_at_call 75; refine (both _ _ _ _ _ _ _ _).mono ?_; rintro e w' ⟨rfl, hb⟩; obtain ⟨hc, hf⟩ := bcell hb; have hz := hb.size; (try simp at hz); (try have hz0 : w.heap.size < w'.heap.size := by omega); (try have hz1 : w.heap.size + 1 < w'.heap.size := by omega); (try have hz2 : w.heap.size + 1 + 1 < w'.heap.size := by omega)) | (go_at_call 164; refine (isNum_b _ (by assumption)).mono ?_; rintro e w' ⟨rfl, rfl⟩) | (go_at_call 165; refine (intOf _ _).mono ?_; rintro e w' ⟨rfl, hb⟩; obtain ⟨hc, hf⟩ := bcell hb; have hz := hb.size; (try simp at hz); (try have hz0 : w.heap.size < w'.heap.size := by omega); (try have hz1 : w.heap.size + 1 < w'.heap.size := by omega); (try have hz2 : w.heap.size + 1 + 1 < w'.heap.size := by omega)))
          refine bodyPost_ret (v := .tuple #[.agg #[.int .i64 (arV (· * ·) ⟨1, an, as_⟩ ⟨1, bn, bs⟩).k, .int .i64 (arV (· * ·) ⟨1, an, as_⟩ ⟨1, bn, bs⟩).n, .string (arV (· * ·) ⟨1, an, as_⟩ ⟨1, bn, bs⟩).s], .int .i64 (arT (· * ·) ⟨1, an, as_⟩ ⟨1, bn, bs⟩)]) (by simp [results, Try.results76, go_sem, arV, arT, V.zero, intV, *]) rfl ⟨rfl, (by repeat (first | with_reducible exact Below.refl _ _ | with_reducible assumption | (with_reducible refine bl_set ?_ (by dsimp only; omega) _) | with_reducible refine bl_alloc ?_ _ | with_reducible refine bl_drewN ?_ _ | with_reducible refine bl_drew ?_ | with_reducible refine bl_step ?_ (by with_reducible assumption) | exact Below.refl _ _ | assumption | (refine bl_set ?_ (by dsimp only; omega) _) | refine bl_alloc ?_ _ | refine bl_drewN ?_ _ | refine bl_drew ?_ | refine bl_step ?_ (by assumption)))⟩
        · go_enter Try.func76, Try.ntmps76
          go_wp2_with (first | (go_at_call 75; refine (both _ _ _ _ _ _ _ _).mono ?_; rintro e w' ⟨rfl, hb⟩; obtain ⟨hc, hf⟩ := bcell hb; have hz := hb.size; (try simp at hz); (try have hz0 : w.heap.size < w'.heap.size := by omega); (try have hz1 : w.heap.size + 1 < w'.heap.size := by omega); (try have hz2 : w.heap.size + 1 + 1 < w'.heap.size := by omega)) | (go_at_call 164; refine (isNum_b _ (by assumption)).mono ?_; rintro e w' ⟨rfl, rfl⟩) | (go_at_call 165; refine (intOf _ _).mono ?_; rintro e w' ⟨rfl, hb⟩; obtain ⟨hc, hf⟩ := bcell hb; have hz := hb.size; (try simp at hz); (try have hz0 : w.heap.size < w'.heap.size := by omega); (try have hz1 : w.heap.size + 1 < w'.heap.size := by omega); (try have hz2 : w.heap.size + 1 + 1 < w'.heap.size := by omega)))
          refine (fmul _ _ _ ha hn).mono ?_
          rintro e w'' ⟨rfl, rfl⟩
          go_wp2_with (first | (go_at_call 75; refine (both _ _ _ _ _ _ _ _).mono ?_; rintro e w' ⟨rfl, hb⟩; obtain ⟨hc, hf⟩ := bcell hb; have hz := hb.size; (try simp at hz); (try have hz0 : w.heap.size < w'.heap.size := by omega); (try have hz1 : w.heap.size + 1 < w'.heap.size := by omega); (try have hz2 : w.heap.size + 1 + 1 < w'.heap.size := by omega)) | (go_at_call 164; refine (isNum_b _ (by assumption)).mono ?_; rintro e w' ⟨rfl, rfl⟩) | (go_at_call 165; refine (intOf _ _).mono ?_; rintro e w' ⟨rfl, hb⟩; obtain ⟨hc, hf⟩ := bcell hb; have hz := hb.size; (try simp at hz); (try have hz0 : w.heap.size < w'.heap.size := by omega); (try have hz1 : w.heap.size + 1 < w'.heap.size := by omega); (try have hz2 : w.heap.size + 1 + 1 < w'.heap.size := by omega)))
          refine (fmul _ _ _ ha hn).mono ?_
          rintro e w'' ⟨rfl, rfl⟩
          go_wp2_with (first | (go_at_call 75; refine (both _ _ _ _ _ _ _ _).mono ?_; rintro e w' ⟨rfl, hb⟩; obtain ⟨hc, hf⟩ := bcell hb; have hz := hb.size; (try simp at hz); (try have hz0 : w.heap.size < w'.heap.size := by omega); (try have hz1 : w.heap.size + 1 < w'.heap.size := by omega); (try have hz2 : w.heap.size + 1 + 1 < w'.heap.size := by omega)) | (go_at_call 164; refine (isNum_b _ (by assumption)).mono ?_; rintro e w' ⟨rfl, rfl⟩) | (go_at_call 165; refine (intOf _ _).mono ?_; rintro e w' ⟨rfl, hb⟩; obtain ⟨hc, hf⟩ := bcell hb; have hz := hb.size; (try simp at hz); (try have hz0 : w.heap.size < w'.heap.size := by omega); (try have hz1 : w.heap.size + 1 < w'.heap.size := by omega); (try have hz2 : w.heap.size + 1 + 1 < w'.heap.size := by omega)))
          refine bodyPost_ret (v := .tuple #[.agg #[.int .i64 (arV (· * ·) ⟨1, an, as_⟩ ⟨1, bn, bs⟩).k, .int .i64 (arV (· * ·) ⟨1, an, as_⟩ ⟨1, bn, bs⟩).n, .string (arV (· * ·) ⟨1, an, as_⟩ ⟨1, bn, bs⟩).s], .int .i64 (arT (· * ·) ⟨1, an, as_⟩ ⟨1, bn, bs⟩)]) (by simp [results, Try.results76, go_sem, arV, arT, V.zero, intV, *]) rfl ⟨rfl, (by repeat (first | with_reducible exact Below.refl _ _ | with_reducible assumption | (with_reducible refine bl_set ?_ (by dsimp only; omega) _) | with_reducible refine bl_alloc ?_ _ | with_reducible refine bl_drewN ?_ _ | with_reducible refine bl_drew ?_ | with_reducible refine bl_step ?_ (by with_reducible assumption) | exact Below.refl _ _ | assumption | (refine bl_set ?_ (by dsimp only; omega) _) | refine bl_alloc ?_ _ | refine bl_drewN ?_ _ | refine bl_drew ?_ | refine bl_step ?_ (by assumption)))⟩
  · have hk' : (ak == 1 && bk == 1) = false := by simpa using hk
    have HK := Lib.hid hk
    clear hk
    go_enter Try.func76, Try.ntmps76
    go_wp2_with (first | (go_at_call 75; refine (both _ _ _ _ _ _ _ _).mono ?_; rintro e w' ⟨rfl, hb⟩; obtain ⟨hc, hf⟩ := bcell hb; have hz := hb.size; (try simp at hz); (try have hz0 : w.heap.size < w'.heap.size := by omega); (try have hz1 : w.heap.size + 1 < w'.heap.size := by omega); (try have hz2 : w.heap.size + 1 + 1 < w'.heap.size := by omega)) | (go_at_call 164; refine (isNum_b _ (by assumption)).mono ?_; rintro e w' ⟨rfl, rfl⟩) | (go_at_call 165; refine (intOf _ _).mono ?_; rintro e w' ⟨rfl, hb⟩; obtain ⟨hc, hf⟩ := bcell hb; have hz := hb.size; (try simp at hz); (try have hz0 : w.heap.size < w'.heap.size := by omega); (try have hz1 : w.heap.size + 1 < w'.heap.size := by omega); (try have hz2 : w.heap.size + 1 + 1 < w'.heap.size := by omega)))
    have hk := HK.out
    refine bodyPost_ret (v := .tuple #[.agg #[.int .i64 (arV (· * ·) ⟨ak, an, as_⟩ ⟨bk, bn, bs⟩).k, .int .i64 (arV (· * ·) ⟨ak, an, as_⟩ ⟨bk, bn, bs⟩).n, .string (arV (· * ·) ⟨ak, an, as_⟩ ⟨bk, bn, bs⟩).s], .int .i64 (arT (· * ·) ⟨ak, an, as_⟩ ⟨bk, bn, bs⟩)]) (by simp [results, Try.results76, go_sem, arV, arT, V.zero, intV, *]) rfl ⟨rfl, (by repeat (first | with_reducible exact Below.refl _ _ | with_reducible assumption | (with_reducible refine bl_set ?_ (by dsimp only; omega) _) | with_reducible refine bl_alloc ?_ _ | with_reducible refine bl_drewN ?_ _ | with_reducible refine bl_drew ?_ | with_reducible refine bl_step ?_ (by with_reducible assumption) | exact Below.refl _ _ | assumption | (refine bl_set ?_ (by dsimp only; omega) _) | refine bl_alloc ?_ _ | refine bl_drewN ?_ _ | refine bl_drew ?_ | refine bl_step ?_ (by assumption)))⟩
theorem arith04_mul (a b : Int) (w : World) : Calls Try.prog 166 #[.int .i64 13, .int .i64 a, .int .i64 b] w fun e w' => e = .returned (.tuple #[.int .i64 (arV (· * ·) ⟨1, a, ⟨#[]⟩⟩ ⟨1, b, ⟨#[]⟩⟩).n, .int .i64 (arT (· * ·) ⟨1, a, ⟨#[]⟩⟩ ⟨1, b, ⟨#[]⟩⟩)]) ∧ w = w' := by
  cases ha : isNumB a
  · go_enter Try.func166, Try.ntmps166
    go_wp2_with (first | (go_at_call 191; refine (num04_b _ (by assumption)).mono ?_; rintro e w' ⟨rfl, rfl⟩))
    go_ret2
    exact ⟨by simp [arV, arT, V.zero, ha], rfl⟩
  · cases hn : isNumB b
    · go_enter Try.func166, Try.ntmps166
      go_wp2_with (first | (go_at_call 191; refine (num04_b _ (by assumption)).mono ?_; rintro e w' ⟨rfl, rfl⟩))
      go_ret2
      exact ⟨by simp [arV, arT, V.zero, ha, hn], rfl⟩
    · have h1 := isNum_of ha
      have h2 := isNum_of hn
      have h3 : -1000000000000000000 ≤ a * b ∧ a * b ≤ 1000000000000000000 := mul_bound h1 h2
      obtain ⟨h4, h5⟩ := h1
      obtain ⟨h6, h7⟩ := h2
      obtain ⟨h8, h9⟩ := h3
      have h10 : -2000000000 ≤ a + b := by omega
      have h11 : a + b ≤ 2000000000 := by omega
      cases hr : isNumB (a * b)
      · go_enter Try.func166, Try.ntmps166
        go_wp2_with (first | (go_at_call 191; refine (num04_b _ (by assumption)).mono ?_; rintro e w' ⟨rfl, rfl⟩))
        go_ret2
        exact ⟨by simp [arV, arT, V.zero, ha, hn, hr], rfl⟩
      · go_enter Try.func166, Try.ntmps166
        go_wp2_with (first | (go_at_call 191; refine (num04_b _ (by assumption)).mono ?_; rintro e w' ⟨rfl, rfl⟩))
        go_ret2
        exact ⟨by simp [arV, arT, intV, ha, hn, hr], rfl⟩
theorem numbers04_mul (ak an : Int) (as_ : ByteArray) (bk bn : Int) (bs : ByteArray) (w : World) : Calls Try.prog 80 #[.int .i64 13, .agg #[.int .i64 ak, .int .i64 an, .string as_], .agg #[.int .i64 bk, .int .i64 bn, .string bs]] w fun e w' => e = .returned (.tuple #[.agg #[.int .i64 (arV (· * ·) ⟨ak, an, as_⟩ ⟨bk, bn, bs⟩).k, .int .i64 (arV (· * ·) ⟨ak, an, as_⟩ ⟨bk, bn, bs⟩).n, .string (arV (· * ·) ⟨ak, an, as_⟩ ⟨bk, bn, bs⟩).s], .int .i64 (arT (· * ·) ⟨ak, an, as_⟩ ⟨bk, bn, bs⟩)]) ∧ Below w.heap.size w w' := by
  by_cases hk : ak = 1 ∧ bk = 1
  · obtain ⟨rfl, rfl⟩ := hk
    by_cases hg : isNumB an = true ∧ isNumB bn = true ∧ isNumB (an * bn) = true
    · have e1 : arT (· * ·) ⟨1, an, ⟨#[]⟩⟩ ⟨1, bn, ⟨#[]⟩⟩ = 0 := by simp [arT, hg]
      have e2 : (arV (· * ·) ⟨1, an, ⟨#[]⟩⟩ ⟨1, bn, ⟨#[]⟩⟩).n = an * bn := by simp [arV, intV, hg]
      have A := arith04_mul an bn
      rw [e1, e2] at A
      have HG := Lib.hid hg
      clear hg e1 e2
      go_enter Try.func80, Try.ntmps80
      go_wp2_with (first | (go_at_call 166; refine (A _).mono ?_; rintro e w' ⟨rfl, rfl⟩) | (go_at_call 162; refine (int04 _ _).mono ?_; rintro e w' ⟨rfl, hb⟩; obtain ⟨hc, hf⟩ := bcell hb; have hz := hb.size; (try simp at hz); (try have hz0 : w.heap.size < w'.heap.size := by omega); (try have hz1 : w.heap.size + 1 < w'.heap.size := by omega); (try have hz2 : w.heap.size + 1 + 1 < w'.heap.size := by omega)))
      have hg := HG.out
      refine bodyPost_ret (v := .tuple #[.agg #[.int .i64 (arV (· * ·) ⟨1, an, as_⟩ ⟨1, bn, bs⟩).k, .int .i64 (arV (· * ·) ⟨1, an, as_⟩ ⟨1, bn, bs⟩).n, .string (arV (· * ·) ⟨1, an, as_⟩ ⟨1, bn, bs⟩).s], .int .i64 (arT (· * ·) ⟨1, an, as_⟩ ⟨1, bn, bs⟩)]) (by simp [results, Try.results80, go_sem, arV, arT, V.zero, intV, *]) rfl ⟨rfl, (by repeat (first | with_reducible exact Below.refl _ _ | with_reducible assumption | (with_reducible refine bl_set ?_ (by dsimp only; omega) _) | with_reducible refine bl_alloc ?_ _ | with_reducible refine bl_drewN ?_ _ | with_reducible refine bl_drew ?_ | with_reducible refine bl_step ?_ (by with_reducible assumption) | exact Below.refl _ _ | assumption | (refine bl_set ?_ (by dsimp only; omega) _) | refine bl_alloc ?_ _ | refine bl_drewN ?_ _ | refine bl_drew ?_ | refine bl_step ?_ (by assumption)))⟩
    · have e1 : arT (· * ·) ⟨1, an, ⟨#[]⟩⟩ ⟨1, bn, ⟨#[]⟩⟩ = 2 := by simp only [arT]; rw [if_pos ⟨trivial, trivial⟩, if_neg hg]
      have A := arith04_mul an bn
      rw [e1] at A
      have HG := Lib.hid hg
      clear hg e1
      go_enter Try.func80, Try.ntmps80
      go_wp2_with (first | (go_at_call 166; refine (A _).mono ?_; rintro e w' ⟨rfl, rfl⟩) | (go_at_call 162; refine (int04 _ _).mono ?_; rintro e w' ⟨rfl, hb⟩; obtain ⟨hc, hf⟩ := bcell hb; have hz := hb.size; (try simp at hz); (try have hz0 : w.heap.size < w'.heap.size := by omega); (try have hz1 : w.heap.size + 1 < w'.heap.size := by omega); (try have hz2 : w.heap.size + 1 + 1 < w'.heap.size := by omega)))
      have hg := HG.out
      refine bodyPost_ret (v := .tuple #[.agg #[.int .i64 (arV (· * ·) ⟨1, an, as_⟩ ⟨1, bn, bs⟩).k, .int .i64 (arV (· * ·) ⟨1, an, as_⟩ ⟨1, bn, bs⟩).n, .string (arV (· * ·) ⟨1, an, as_⟩ ⟨1, bn, bs⟩).s], .int .i64 (arT (· * ·) ⟨1, an, as_⟩ ⟨1, bn, bs⟩)]) (by simp [results, Try.results80, go_sem, arV, arT, V.zero, intV, *]) rfl ⟨rfl, (by repeat (first | with_reducible exact Below.refl _ _ | with_reducible assumption | (with_reducible refine bl_set ?_ (by dsimp only; omega) _) | with_reducible refine bl_alloc ?_ _ | with_reducible refine bl_drewN ?_ _ | with_reducible refine bl_drew ?_ | with_reducible refine bl_step ?_ (by with_reducible assumption) | exact Below.refl _ _ | assumption | (refine bl_set ?_ (by dsimp only; omega) _) | refine bl_alloc ?_ _ | refine bl_drewN ?_ _ | refine bl_drew ?_ | refine bl_step ?_ (by assumption)))⟩
  · by_cases ha : ak = 1
    · subst ha
      have hb' : (bk != 1) = true := by simpa using hk
      have HK := Lib.hid hk
      clear hk
      go_enter Try.func80, Try.ntmps80
      go_wp2
      have hk := HK.out
      refine bodyPost_ret (v := .tuple #[.agg #[.int .i64 (arV (· * ·) ⟨1, an, as_⟩ ⟨bk, bn, bs⟩).k, .int .i64 (arV (· * ·) ⟨1, an, as_⟩ ⟨bk, bn, bs⟩).n, .string (arV (· * ·) ⟨1, an, as_⟩ ⟨bk, bn, bs⟩).s], .int .i64 (arT (· * ·) ⟨1, an, as_⟩ ⟨bk, bn, bs⟩)]) (by simp [results, Try.results80, go_sem, arV, arT, V.zero, intV, *]) rfl ⟨rfl, (by repeat (first | with_reducible exact Below.refl _ _ | with_reducible assumption | (with_reducible refine bl_set ?_ (by dsimp only; omega) _) | with_reducible refine bl_alloc ?_ _ | with_reducible refine bl_drewN ?_ _ | with_reducible refine bl_drew ?_ | with_reducible refine bl_step ?_ (by with_reducible assumption) | exact Below.refl _ _ | assumption | (refine bl_set ?_ (by dsimp only; omega) _) | refine bl_alloc ?_ _ | refine bl_drewN ?_ _ | refine bl_drew ?_ | refine bl_step ?_ (by assumption)))⟩
    · have ha' : (ak != 1) = true := by simpa using ha
      clear hk
      go_enter Try.func80, Try.ntmps80
      go_wp2
      refine bodyPost_ret (v := .tuple #[.agg #[.int .i64 (arV (· * ·) ⟨ak, an, as_⟩ ⟨bk, bn, bs⟩).k, .int .i64 (arV (· * ·) ⟨ak, an, as_⟩ ⟨bk, bn, bs⟩).n, .string (arV (· * ·) ⟨ak, an, as_⟩ ⟨bk, bn, bs⟩).s], .int .i64 (arT (· * ·) ⟨ak, an, as_⟩ ⟨bk, bn, bs⟩)]) (by simp [results, Try.results80, go_sem, arV, arT, V.zero, intV, *]) rfl ⟨rfl, (by repeat (first | with_reducible exact Below.refl _ _ | with_reducible assumption | (with_reducible refine bl_set ?_ (by dsimp only; omega) _) | with_reducible refine bl_alloc ?_ _ | with_reducible refine bl_drewN ?_ _ | with_reducible refine bl_drew ?_ | with_reducible refine bl_step ?_ (by with_reducible assumption) | exact Below.refl _ _ | assumption | (refine bl_set ?_ (by dsimp only; omega) _) | refine bl_alloc ?_ _ | refine bl_drewN ?_ _ | refine bl_drew ?_ | refine bl_step ?_ (by assumption)))⟩
theorem mulI (ak an : Int) (as_ : ByteArray) (bk bn : Int) (bs : ByteArray) (w : World) : Calls Try.prog 15 #[.agg #[.int .i64 ak, .int .i64 an, .string as_], .agg #[.int .i64 bk, .int .i64 bn, .string bs]] w fun e w' => e = .returned (.tuple #[.agg #[.int .i64 (arV (· * ·) ⟨ak, an, as_⟩ ⟨bk, bn, bs⟩).k, .int .i64 (arV (· * ·) ⟨ak, an, as_⟩ ⟨bk, bn, bs⟩).n, .string (arV (· * ·) ⟨ak, an, as_⟩ ⟨bk, bn, bs⟩).s], .int .i64 (arT (· * ·) ⟨ak, an, as_⟩ ⟨bk, bn, bs⟩)]) ∧ Below w.heap.size w w' := by
  go_enter Try.func15, Try.ntmps15
  go_wp2_with (go_at_call 76; refine (counted_mul _ _ _ _ _ _ _).mono ?_; rintro e w' ⟨rfl, hb⟩; obtain ⟨hc, hf⟩ := bcell hb; have hz := hb.size; (try simp at hz); (try have hz0 : w.heap.size < w'.heap.size := by omega); (try have hz1 : w.heap.size + 1 < w'.heap.size := by omega); (try have hz2 : w.heap.size + 1 + 1 < w'.heap.size := by omega))
  refine bodyPost_ret (v := .tuple #[.agg #[.int .i64 (arV (· * ·) ⟨ak, an, as_⟩ ⟨bk, bn, bs⟩).k, .int .i64 (arV (· * ·) ⟨ak, an, as_⟩ ⟨bk, bn, bs⟩).n, .string (arV (· * ·) ⟨ak, an, as_⟩ ⟨bk, bn, bs⟩).s], .int .i64 (arT (· * ·) ⟨ak, an, as_⟩ ⟨bk, bn, bs⟩)]) (by simp [results, Try.results15, go_sem, true_and, *]) rfl ⟨rfl, (by repeat (first | with_reducible exact Below.refl _ _ | with_reducible assumption | (with_reducible refine bl_set ?_ (by dsimp only; omega) _) | with_reducible refine bl_alloc ?_ _ | with_reducible refine bl_drewN ?_ _ | with_reducible refine bl_drew ?_ | with_reducible refine bl_step ?_ (by with_reducible assumption) | exact Below.refl _ _ | assumption | (refine bl_set ?_ (by dsimp only; omega) _) | refine bl_alloc ?_ _ | refine bl_drewN ?_ _ | refine bl_drew ?_ | refine bl_step ?_ (by assumption)))⟩
theorem mul04 (ak an : Int) (as_ : ByteArray) (bk bn : Int) (bs : ByteArray) (w : World) : Calls Try.prog 18 #[.agg #[.int .i64 ak, .int .i64 an, .string as_], .agg #[.int .i64 bk, .int .i64 bn, .string bs]] w fun e w' => e = .returned (.tuple #[.agg #[.int .i64 (arV (· * ·) ⟨ak, an, as_⟩ ⟨bk, bn, bs⟩).k, .int .i64 (arV (· * ·) ⟨ak, an, as_⟩ ⟨bk, bn, bs⟩).n, .string (arV (· * ·) ⟨ak, an, as_⟩ ⟨bk, bn, bs⟩).s], .int .i64 (arT (· * ·) ⟨ak, an, as_⟩ ⟨bk, bn, bs⟩)]) ∧ Below w.heap.size w w' := by
  go_enter Try.func18, Try.ntmps18
  go_wp2_with (go_at_call 80; refine (numbers04_mul _ _ _ _ _ _ _).mono ?_; rintro e w' ⟨rfl, hb⟩; obtain ⟨hc, hf⟩ := bcell hb; have hz := hb.size; (try simp at hz); (try have hz0 : w.heap.size < w'.heap.size := by omega); (try have hz1 : w.heap.size + 1 < w'.heap.size := by omega); (try have hz2 : w.heap.size + 1 + 1 < w'.heap.size := by omega))
  refine bodyPost_ret (v := .tuple #[.agg #[.int .i64 (arV (· * ·) ⟨ak, an, as_⟩ ⟨bk, bn, bs⟩).k, .int .i64 (arV (· * ·) ⟨ak, an, as_⟩ ⟨bk, bn, bs⟩).n, .string (arV (· * ·) ⟨ak, an, as_⟩ ⟨bk, bn, bs⟩).s], .int .i64 (arT (· * ·) ⟨ak, an, as_⟩ ⟨bk, bn, bs⟩)]) (by simp [results, Try.results18, go_sem, true_and, *]) rfl ⟨rfl, (by repeat (first | with_reducible exact Below.refl _ _ | with_reducible assumption | (with_reducible refine bl_set ?_ (by dsimp only; omega) _) | with_reducible refine bl_alloc ?_ _ | with_reducible refine bl_drewN ?_ _ | with_reducible refine bl_drew ?_ | with_reducible refine bl_step ?_ (by with_reducible assumption) | exact Below.refl _ _ | assumption | (refine bl_set ?_ (by dsimp only; omega) _) | refine bl_alloc ?_ _ | refine bl_drewN ?_ _ | refine bl_drew ?_ | refine bl_step ?_ (by assumption)))⟩

theorem fsub (a b : Int) (w : World) (ha : isNumB a = true) (hb : isNumB b = true) : Calls Try.prog 79 #[.int .i64 a, .int .i64 b] w fun e w' => e = .returned (.int .i64 (a - b)) ∧ w = w' := by
  have h1 := isNum_of ha
  have h2 := isNum_of hb
  have h3 : -1000000000000000000 ≤ a - b ∧ a - b ≤ 1000000000000000000 := by omega
  clear ha hb
  obtain ⟨h4, h5⟩ := h1
  obtain ⟨h6, h7⟩ := h2
  obtain ⟨h8, h9⟩ := h3
  go_enter Try.func79, Try.ntmps79
  go_wp2
  go_ret
  exact ⟨rfl, rfl⟩
theorem counted_sub (ak an : Int) (as_ : ByteArray) (bk bn : Int) (bs : ByteArray) (w : World) : Calls Try.prog 76 #[.agg #[.int .i64 ak, .int .i64 an, .string as_], .agg #[.int .i64 bk, .int .i64 bn, .string bs], .func (.func 79) #[] #[]] w fun e w' => e = .returned (.tuple #[.agg #[.int .i64 (arV (· - ·) ⟨ak, an, as_⟩ ⟨bk, bn, bs⟩).k, .int .i64 (arV (· - ·) ⟨ak, an, as_⟩ ⟨bk, bn, bs⟩).n, .string (arV (· - ·) ⟨ak, an, as_⟩ ⟨bk, bn, bs⟩).s], .int .i64 (arT (· - ·) ⟨ak, an, as_⟩ ⟨bk, bn, bs⟩)]) ∧ Below w.heap.size w w' := by
  by_cases hk : ak = 1 ∧ bk = 1
  · obtain ⟨rfl, rfl⟩ := hk
    cases ha : isNumB an
    · go_enter Try.func76, Try.ntmps76
      go_wp2_with (first | (go_at_call 75; refine (both _ _ _ _ _ _ _ _).mono ?_; rintro e w' ⟨rfl, hb⟩; obtain ⟨hc, hf⟩ := bcell hb; have hz := hb.size; (try simp at hz); (try have hz0 : w.heap.size < w'.heap.size := by omega); (try have hz1 : w.heap.size + 1 < w'.heap.size := by omega); (try have hz2 : w.heap.size + 1 + 1 < w'.heap.size := by omega)) | (go_at_call 164; refine (isNum_b _ (by assumption)).mono ?_; rintro e w' ⟨rfl, rfl⟩) | (go_at_call 165; refine (intOf _ _).mono ?_; rintro e w' ⟨rfl, hb⟩; obtain ⟨hc, hf⟩ := bcell hb; have hz := hb.size; (try simp at hz); (try have hz0 : w.heap.size < w'.heap.size := by omega); (try have hz1 : w.heap.size + 1 < w'.heap.size := by omega); (try have hz2 : w.heap.size + 1 + 1 < w'.heap.size := by omega)))
      refine bodyPost_ret (v := .tuple #[.agg #[.int .i64 (arV (· - ·) ⟨1, an, as_⟩ ⟨1, bn, bs⟩).k, .int .i64 (arV (· - ·) ⟨1, an, as_⟩ ⟨1, bn, bs⟩).n, .string (arV (· - ·) ⟨1, an, as_⟩ ⟨1, bn, bs⟩).s], .int .i64 (arT (· - ·) ⟨1, an, as_⟩ ⟨1, bn, bs⟩)]) (by simp [results, Try.results76, go_sem, arV, arT, V.zero, intV, *]) rfl ⟨rfl, (by repeat (first | with_reducible exact Below.refl _ _ | with_reducible assumption | (with_reducible refine bl_set ?_ (by dsimp only; omega) _) | with_reducible refine bl_alloc ?_ _ | with_reducible refine bl_drewN ?_ _ | with_reducible refine bl_drew ?_ | with_reducible refine bl_step ?_ (by with_reducible assumption) | exact Below.refl _ _ | assumption | (refine bl_set ?_ (by dsimp only; omega) _) | refine bl_alloc ?_ _ | refine bl_drewN ?_ _ | refine bl_drew ?_ | refine bl_step ?_ (by assumption)))⟩
    · cases hn : isNumB bn
      · go_enter Try.func76, Try.ntmps76
        go_wp2_with (first | (go_at_call 75; refine (both _ _ _ _ _ _ _ _).mono ?_; rintro e w' ⟨rfl, hb⟩; obtain ⟨hc, hf⟩ := bcell hb; have hz := hb.size; (try simp at hz); (try have hz0 : w.heap.size < w'.heap.size := by omega); (try have hz1 : w.heap.size + 1 < w'.heap.size := by omega); (try have hz2 : w.heap.size + 1 + 1 < w'.heap.size := by omega)) | (go_at_call 164; refine (isNum_b _ (by assumption)).mono ?_; rintro e w' ⟨rfl, rfl⟩) | (go_at_call 165; refine (intOf _ _).mono ?_; rintro e w' ⟨rfl, hb⟩; obtain ⟨hc, hf⟩ := bcell hb; have hz := hb.size; (try simp at hz); (try have hz0 : w.heap.size < w'.heap.size := by omega); (try have hz1 : w.heap.size + 1 < w'.heap.size := by omega); (try have hz2 : w.heap.size + 1 + 1 < w'.heap.size := by omega)))
        refine bodyPost_ret (v := .tuple #[.agg #[.int .i64 (arV (· - ·) ⟨1, an, as_⟩ ⟨1, bn, bs⟩).k, .int .i64 (arV (· - ·) ⟨1, an, as_⟩ ⟨1, bn, bs⟩).n, .string (arV (· - ·) ⟨1, an, as_⟩ ⟨1, bn, bs⟩).s], .int .i64 (arT (· - ·) ⟨1, an, as_⟩ ⟨1, bn, bs⟩)]) (by simp [results, Try.results76, go_sem, arV, arT, V.zero, intV, *]) rfl ⟨rfl, (by repeat (first | with_reducible exact Below.refl _ _ | with_reducible assumption | (with_reducible refine bl_set ?_ (by dsimp only; omega) _) | with_reducible refine bl_alloc ?_ _ | with_reducible refine bl_drewN ?_ _ | with_reducible refine bl_drew ?_ | with_reducible refine bl_step ?_ (by with_reducible assumption) | exact Below.refl _ _ | assumption | (refine bl_set ?_ (by dsimp only; omega) _) | refine bl_alloc ?_ _ | refine bl_drewN ?_ _ | refine bl_drew ?_ | refine bl_step ?_ (by assumption)))⟩
      · cases hr : isNumB (an - bn)
        · go_enter Try.func76, Try.ntmps76
          go_wp2_with (first | (go_at_call 75; refine (both _ _ _ _ _ _ _ _).mono ?_; rintro e w' ⟨rfl, hb⟩; obtain ⟨hc, hf⟩ := bcell hb; have hz := hb.size; (try simp at hz); (try have hz0 : w.heap.size < w'.heap.size := by omega); (try have hz1 : w.heap.size + 1 < w'.heap.size := by omega); (try have hz2 : w.heap.size + 1 + 1 < w'.heap.size := by omega)) | (go_at_call 164; refine (isNum_b _ (by assumption)).mono ?_; rintro e w' ⟨rfl, rfl⟩) | (go_at_call 165; refine (intOf _ _).mono ?_; rintro e w' ⟨rfl, hb⟩; obtain ⟨hc, hf⟩ := bcell hb; have hz := hb.size; (try simp at hz); (try have hz0 : w.heap.size < w'.heap.size := by omega); (try have hz1 : w.heap.size + 1 < w'.heap.size := by omega); (try have hz2 : w.heap.size + 1 + 1 < w'.heap.size := by omega)))
          refine (fsub _ _ _ ha hn).mono ?_
          rintro e w'' ⟨rfl, rfl⟩
          go_wp2_with (first | (go_at_call 75; refine (both _ _ _ _ _ _ _ _).mono ?_; rintro e w' ⟨rfl, hb⟩; obtain ⟨hc, hf⟩ := bcell hb; have hz := hb.size; (try simp at hz); (try have hz0 : w.heap.size < w'.heap.size := by omega); (try have hz1 : w.heap.size + 1 < w'.heap.size := by omega); (try have hz2 : w.heap.size + 1 + 1 < w'.heap.size := by omega)) | (go_at_call 164; refine (isNum_b _ (by assumption)).mono ?_; rintro e w' ⟨rfl, rfl⟩) | (go_at_call 165; refine (intOf _ _).mono ?_; rintro e w' ⟨rfl, hb⟩; obtain ⟨hc, hf⟩ := bcell hb; have hz := hb.size; (try simp at hz); (try have hz0 : w.heap.size < w'.heap.size := by omega); (try have hz1 : w.heap.size + 1 < w'.heap.size := by omega); (try have hz2 : w.heap.size + 1 + 1 < w'.heap.size := by omega)))
          refine bodyPost_ret (v := .tuple #[.agg #[.int .i64 (arV (· - ·) ⟨1, an, as_⟩ ⟨1, bn, bs⟩).k, .int .i64 (arV (· - ·) ⟨1, an, as_⟩ ⟨1, bn, bs⟩).n, .string (arV (· - ·) ⟨1, an, as_⟩ ⟨1, bn, bs⟩).s], .int .i64 (arT (· - ·) ⟨1, an, as_⟩ ⟨1, bn, bs⟩)]) (by simp [results, Try.results76, go_sem, arV, arT, V.zero, intV, *]) rfl ⟨rfl, (by repeat (first | with_reducible exact Below.refl _ _ | with_reducible assumption | (with_reducible refine bl_set ?_ (by dsimp only; omega) _) | with_reducible refine bl_alloc ?_ _ | with_reducible refine bl_drewN ?_ _ | with_reducible refine bl_drew ?_ | with_reducible refine bl_step ?_ (by with_reducible assumption) | exact Below.refl _ _ | assumption | (refine bl_set ?_ (by dsimp only; omega) _) | refine bl_alloc ?_ _ | refine bl_drewN ?_ _ | refine bl_drew ?_ | refine bl_step ?_ (by assumption)))⟩
        · go_enter Try.func76, Try.ntmps76
          go_wp2_with (first | (go_at_call 75; refine (both _ _ _ _ _ _ _ _).mono ?_; rintro e w' ⟨rfl, hb⟩; obtain ⟨hc, hf⟩ := bcell hb; have hz := hb.size; (try simp at hz); (try have hz0 : w.heap.size < w'.heap.size := by omega); (try have hz1 : w.heap.size + 1 < w'.heap.size := by omega); (try have hz2 : w.heap.size + 1 + 1 < w'.heap.size := by omega)) | (go_at_call 164; refine (isNum_b _ (by assumption)).mono ?_; rintro e w' ⟨rfl, rfl⟩) | (go_at_call 165; refine (intOf _ _).mono ?_; rintro e w' ⟨rfl, hb⟩; obtain ⟨hc, hf⟩ := bcell hb; have hz := hb.size; (try simp at hz); (try have hz0 : w.heap.size < w'.heap.size := by omega); (try have hz1 : w.heap.size + 1 < w'.heap.size := by omega); (try have hz2 : w.heap.size + 1 + 1 < w'.heap.size := by omega)))
          refine (fsub _ _ _ ha hn).mono ?_
          rintro e w'' ⟨rfl, rfl⟩
          go_wp2_with (first | (go_at_call 75; refine (both _ _ _ _ _ _ _ _).mono ?_; rintro e w' ⟨rfl, hb⟩; obtain ⟨hc, hf⟩ := bcell hb; have hz := hb.size; (try simp at hz); (try have hz0 : w.heap.size < w'.heap.size := by omega); (try have hz1 : w.heap.size + 1 < w'.heap.size := by omega); (try have hz2 : w.heap.size + 1 + 1 < w'.heap.size := by omega)) | (go_at_call 164; refine (isNum_b _ (by assumption)).mono ?_; rintro e w' ⟨rfl, rfl⟩) | (go_at_call 165; refine (intOf _ _).mono ?_; rintro e w' ⟨rfl, hb⟩; obtain ⟨hc, hf⟩ := bcell hb; have hz := hb.size; (try simp at hz); (try have hz0 : w.heap.size < w'.heap.size := by omega); (try have hz1 : w.heap.size + 1 < w'.heap.size := by omega); (try have hz2 : w.heap.size + 1 + 1 < w'.heap.size := by omega)))
          refine (fsub _ _ _ ha hn).mono ?_
          rintro e w'' ⟨rfl, rfl⟩
          go_wp2_with (first | (go_at_call 75; refine (both _ _ _ _ _ _ _ _).mono ?_; rintro e w' ⟨rfl, hb⟩; obtain ⟨hc, hf⟩ := bcell hb; have hz := hb.size; (try simp at hz); (try have hz0 : w.heap.size < w'.heap.size := by omega); (try have hz1 : w.heap.size + 1 < w'.heap.size := by omega); (try have hz2 : w.heap.size + 1 + 1 < w'.heap.size := by omega)) | (go_at_call 164; refine (isNum_b _ (by assumption)).mono ?_; rintro e w' ⟨rfl, rfl⟩) | (go_at_call 165; refine (intOf _ _).mono ?_; rintro e w' ⟨rfl, hb⟩; obtain ⟨hc, hf⟩ := bcell hb; have hz := hb.size; (try simp at hz); (try have hz0 : w.heap.size < w'.heap.size := by omega); (try have hz1 : w.heap.size + 1 < w'.heap.size := by omega); (try have hz2 : w.heap.size + 1 + 1 < w'.heap.size := by omega)))
          refine bodyPost_ret (v := .tuple #[.agg #[.int .i64 (arV (· - ·) ⟨1, an, as_⟩ ⟨1, bn, bs⟩).k, .int .i64 (arV (· - ·) ⟨1, an, as_⟩ ⟨1, bn, bs⟩).n, .string (arV (· - ·) ⟨1, an, as_⟩ ⟨1, bn, bs⟩).s], .int .i64 (arT (· - ·) ⟨1, an, as_⟩ ⟨1, bn, bs⟩)]) (by simp [results, Try.results76, go_sem, arV, arT, V.zero, intV, *]) rfl ⟨rfl, (by repeat (first | with_reducible exact Below.refl _ _ | with_reducible assumption | (with_reducible refine bl_set ?_ (by dsimp only; omega) _) | with_reducible refine bl_alloc ?_ _ | with_reducible refine bl_drewN ?_ _ | with_reducible refine bl_drew ?_ | with_reducible refine bl_step ?_ (by with_reducible assumption) | exact Below.refl _ _ | assumption | (refine bl_set ?_ (by dsimp only; omega) _) | refine bl_alloc ?_ _ | refine bl_drewN ?_ _ | refine bl_drew ?_ | refine bl_step ?_ (by assumption)))⟩
  · have hk' : (ak == 1 && bk == 1) = false := by simpa using hk
    have HK := Lib.hid hk
    clear hk
    go_enter Try.func76, Try.ntmps76
    go_wp2_with (first | (go_at_call 75; refine (both _ _ _ _ _ _ _ _).mono ?_; rintro e w' ⟨rfl, hb⟩; obtain ⟨hc, hf⟩ := bcell hb; have hz := hb.size; (try simp at hz); (try have hz0 : w.heap.size < w'.heap.size := by omega); (try have hz1 : w.heap.size + 1 < w'.heap.size := by omega); (try have hz2 : w.heap.size + 1 + 1 < w'.heap.size := by omega)) | (go_at_call 164; refine (isNum_b _ (by assumption)).mono ?_; rintro e w' ⟨rfl, rfl⟩) | (go_at_call 165; refine (intOf _ _).mono ?_; rintro e w' ⟨rfl, hb⟩; obtain ⟨hc, hf⟩ := bcell hb; have hz := hb.size; (try simp at hz); (try have hz0 : w.heap.size < w'.heap.size := by omega); (try have hz1 : w.heap.size + 1 < w'.heap.size := by omega); (try have hz2 : w.heap.size + 1 + 1 < w'.heap.size := by omega)))
    have hk := HK.out
    refine bodyPost_ret (v := .tuple #[.agg #[.int .i64 (arV (· - ·) ⟨ak, an, as_⟩ ⟨bk, bn, bs⟩).k, .int .i64 (arV (· - ·) ⟨ak, an, as_⟩ ⟨bk, bn, bs⟩).n, .string (arV (· - ·) ⟨ak, an, as_⟩ ⟨bk, bn, bs⟩).s], .int .i64 (arT (· - ·) ⟨ak, an, as_⟩ ⟨bk, bn, bs⟩)]) (by simp [results, Try.results76, go_sem, arV, arT, V.zero, intV, *]) rfl ⟨rfl, (by repeat (first | with_reducible exact Below.refl _ _ | with_reducible assumption | (with_reducible refine bl_set ?_ (by dsimp only; omega) _) | with_reducible refine bl_alloc ?_ _ | with_reducible refine bl_drewN ?_ _ | with_reducible refine bl_drew ?_ | with_reducible refine bl_step ?_ (by with_reducible assumption) | exact Below.refl _ _ | assumption | (refine bl_set ?_ (by dsimp only; omega) _) | refine bl_alloc ?_ _ | refine bl_drewN ?_ _ | refine bl_drew ?_ | refine bl_step ?_ (by assumption)))⟩
theorem arith04_sub (a b : Int) (w : World) : Calls Try.prog 166 #[.int .i64 12, .int .i64 a, .int .i64 b] w fun e w' => e = .returned (.tuple #[.int .i64 (arV (· - ·) ⟨1, a, ⟨#[]⟩⟩ ⟨1, b, ⟨#[]⟩⟩).n, .int .i64 (arT (· - ·) ⟨1, a, ⟨#[]⟩⟩ ⟨1, b, ⟨#[]⟩⟩)]) ∧ w = w' := by
  cases ha : isNumB a
  · go_enter Try.func166, Try.ntmps166
    go_wp2_with (first | (go_at_call 191; refine (num04_b _ (by assumption)).mono ?_; rintro e w' ⟨rfl, rfl⟩))
    go_ret2
    exact ⟨by simp [arV, arT, V.zero, ha], rfl⟩
  · cases hn : isNumB b
    · go_enter Try.func166, Try.ntmps166
      go_wp2_with (first | (go_at_call 191; refine (num04_b _ (by assumption)).mono ?_; rintro e w' ⟨rfl, rfl⟩))
      go_ret2
      exact ⟨by simp [arV, arT, V.zero, ha, hn], rfl⟩
    · have h1 := isNum_of ha
      have h2 := isNum_of hn
      have h3 : -1000000000000000000 ≤ a - b ∧ a - b ≤ 1000000000000000000 := by omega
      obtain ⟨h4, h5⟩ := h1
      obtain ⟨h6, h7⟩ := h2
      obtain ⟨h8, h9⟩ := h3
      have h10 : -2000000000 ≤ a + b := by omega
      have h11 : a + b ≤ 2000000000 := by omega
      cases hr : isNumB (a - b)
      · go_enter Try.func166, Try.ntmps166
        go_wp2_with (first | (go_at_call 191; refine (num04_b _ (by assumption)).mono ?_; rintro e w' ⟨rfl, rfl⟩))
        go_ret2
        exact ⟨by simp [arV, arT, V.zero, ha, hn, hr], rfl⟩
      · go_enter Try.func166, Try.ntmps166
        go_wp2_with (first | (go_at_call 191; refine (num04_b _ (by assumption)).mono ?_; rintro e w' ⟨rfl, rfl⟩))
        go_ret2
        exact ⟨by simp [arV, arT, intV, ha, hn, hr], rfl⟩
theorem numbers04_sub (ak an : Int) (as_ : ByteArray) (bk bn : Int) (bs : ByteArray) (w : World) : Calls Try.prog 80 #[.int .i64 12, .agg #[.int .i64 ak, .int .i64 an, .string as_], .agg #[.int .i64 bk, .int .i64 bn, .string bs]] w fun e w' => e = .returned (.tuple #[.agg #[.int .i64 (arV (· - ·) ⟨ak, an, as_⟩ ⟨bk, bn, bs⟩).k, .int .i64 (arV (· - ·) ⟨ak, an, as_⟩ ⟨bk, bn, bs⟩).n, .string (arV (· - ·) ⟨ak, an, as_⟩ ⟨bk, bn, bs⟩).s], .int .i64 (arT (· - ·) ⟨ak, an, as_⟩ ⟨bk, bn, bs⟩)]) ∧ Below w.heap.size w w' := by
  by_cases hk : ak = 1 ∧ bk = 1
  · obtain ⟨rfl, rfl⟩ := hk
    by_cases hg : isNumB an = true ∧ isNumB bn = true ∧ isNumB (an - bn) = true
    · have e1 : arT (· - ·) ⟨1, an, ⟨#[]⟩⟩ ⟨1, bn, ⟨#[]⟩⟩ = 0 := by simp [arT, hg]
      have e2 : (arV (· - ·) ⟨1, an, ⟨#[]⟩⟩ ⟨1, bn, ⟨#[]⟩⟩).n = an - bn := by simp [arV, intV, hg]
      have A := arith04_sub an bn
      rw [e1, e2] at A
      have HG := Lib.hid hg
      clear hg e1 e2
      go_enter Try.func80, Try.ntmps80
      go_wp2_with (first | (go_at_call 166; refine (A _).mono ?_; rintro e w' ⟨rfl, rfl⟩) | (go_at_call 162; refine (int04 _ _).mono ?_; rintro e w' ⟨rfl, hb⟩; obtain ⟨hc, hf⟩ := bcell hb; have hz := hb.size; (try simp at hz); (try have hz0 : w.heap.size < w'.heap.size := by omega); (try have hz1 : w.heap.size + 1 < w'.heap.size := by omega); (try have hz2 : w.heap.size + 1 + 1 < w'.heap.size := by omega)))
      have hg := HG.out
      refine bodyPost_ret (v := .tuple #[.agg #[.int .i64 (arV (· - ·) ⟨1, an, as_⟩ ⟨1, bn, bs⟩).k, .int .i64 (arV (· - ·) ⟨1, an, as_⟩ ⟨1, bn, bs⟩).n, .string (arV (· - ·) ⟨1, an, as_⟩ ⟨1, bn, bs⟩).s], .int .i64 (arT (· - ·) ⟨1, an, as_⟩ ⟨1, bn, bs⟩)]) (by simp [results, Try.results80, go_sem, arV, arT, V.zero, intV, *]) rfl ⟨rfl, (by repeat (first | with_reducible exact Below.refl _ _ | with_reducible assumption | (with_reducible refine bl_set ?_ (by dsimp only; omega) _) | with_reducible refine bl_alloc ?_ _ | with_reducible refine bl_drewN ?_ _ | with_reducible refine bl_drew ?_ | with_reducible refine bl_step ?_ (by with_reducible assumption) | exact Below.refl _ _ | assumption | (refine bl_set ?_ (by dsimp only; omega) _) | refine bl_alloc ?_ _ | refine bl_drewN ?_ _ | refine bl_drew ?_ | refine bl_step ?_ (by assumption)))⟩
    · have e1 : arT (· - ·) ⟨1, an, ⟨#[]⟩⟩ ⟨1, bn, ⟨#[]⟩⟩ = 2 := by simp only [arT]; rw [if_pos ⟨trivial, trivial⟩, if_neg hg]
      have A := arith04_sub an bn
      rw [e1] at A
      have HG := Lib.hid hg
      clear hg e1
      go_enter Try.func80, Try.ntmps80
      go_wp2_with (first | (go_at_call 166; refine (A _).mono ?_; rintro e w' ⟨rfl, rfl⟩) | (go_at_call 162; refine (int04 _ _).mono ?_; rintro e w' ⟨rfl, hb⟩; obtain ⟨hc, hf⟩ := bcell hb; have hz := hb.size; (try simp at hz); (try have hz0 : w.heap.size < w'.heap.size := by omega); (try have hz1 : w.heap.size + 1 < w'.heap.size := by omega); (try have hz2 : w.heap.size + 1 + 1 < w'.heap.size := by omega)))
      have hg := HG.out
      refine bodyPost_ret (v := .tuple #[.agg #[.int .i64 (arV (· - ·) ⟨1, an, as_⟩ ⟨1, bn, bs⟩).k, .int .i64 (arV (· - ·) ⟨1, an, as_⟩ ⟨1, bn, bs⟩).n, .string (arV (· - ·) ⟨1, an, as_⟩ ⟨1, bn, bs⟩).s], .int .i64 (arT (· - ·) ⟨1, an, as_⟩ ⟨1, bn, bs⟩)]) (by simp [results, Try.results80, go_sem, arV, arT, V.zero, intV, *]) rfl ⟨rfl, (by repeat (first | with_reducible exact Below.refl _ _ | with_reducible assumption | (with_reducible refine bl_set ?_ (by dsimp only; omega) _) | with_reducible refine bl_alloc ?_ _ | with_reducible refine bl_drewN ?_ _ | with_reducible refine bl_drew ?_ | with_reducible refine bl_step ?_ (by with_reducible assumption) | exact Below.refl _ _ | assumption | (refine bl_set ?_ (by dsimp only; omega) _) | refine bl_alloc ?_ _ | refine bl_drewN ?_ _ | refine bl_drew ?_ | refine bl_step ?_ (by assumption)))⟩
  · by_cases ha : ak = 1
    · subst ha
      have hb' : (bk != 1) = true := by simpa using hk
      have HK := Lib.hid hk
      clear hk
      go_enter Try.func80, Try.ntmps80
      go_wp2
      have hk := HK.out
      refine bodyPost_ret (v := .tuple #[.agg #[.int .i64 (arV (· - ·) ⟨1, an, as_⟩ ⟨bk, bn, bs⟩).k, .int .i64 (arV (· - ·) ⟨1, an, as_⟩ ⟨bk, bn, bs⟩).n, .string (arV (· - ·) ⟨1, an, as_⟩ ⟨bk, bn, bs⟩).s], .int .i64 (arT (· - ·) ⟨1, an, as_⟩ ⟨bk, bn, bs⟩)]) (by simp [results, Try.results80, go_sem, arV, arT, V.zero, intV, *]) rfl ⟨rfl, (by repeat (first | with_reducible exact Below.refl _ _ | with_reducible assumption | (with_reducible refine bl_set ?_ (by dsimp only; omega) _) | with_reducible refine bl_alloc ?_ _ | with_reducible refine bl_drewN ?_ _ | with_reducible refine bl_drew ?_ | with_reducible refine bl_step ?_ (by with_reducible assumption) | exact Below.refl _ _ | assumption | (refine bl_set ?_ (by dsimp only; omega) _) | refine bl_alloc ?_ _ | refine bl_drewN ?_ _ | refine bl_drew ?_ | refine bl_step ?_ (by assumption)))⟩
    · have ha' : (ak != 1) = true := by simpa using ha
      clear hk
      go_enter Try.func80, Try.ntmps80
      go_wp2
      refine bodyPost_ret (v := .tuple #[.agg #[.int .i64 (arV (· - ·) ⟨ak, an, as_⟩ ⟨bk, bn, bs⟩).k, .int .i64 (arV (· - ·) ⟨ak, an, as_⟩ ⟨bk, bn, bs⟩).n, .string (arV (· - ·) ⟨ak, an, as_⟩ ⟨bk, bn, bs⟩).s], .int .i64 (arT (· - ·) ⟨ak, an, as_⟩ ⟨bk, bn, bs⟩)]) (by simp [results, Try.results80, go_sem, arV, arT, V.zero, intV, *]) rfl ⟨rfl, (by repeat (first | with_reducible exact Below.refl _ _ | with_reducible assumption | (with_reducible refine bl_set ?_ (by dsimp only; omega) _) | with_reducible refine bl_alloc ?_ _ | with_reducible refine bl_drewN ?_ _ | with_reducible refine bl_drew ?_ | with_reducible refine bl_step ?_ (by with_reducible assumption) | exact Below.refl _ _ | assumption | (refine bl_set ?_ (by dsimp only; omega) _) | refine bl_alloc ?_ _ | refine bl_drewN ?_ _ | refine bl_drew ?_ | refine bl_step ?_ (by assumption)))⟩
theorem subI (ak an : Int) (as_ : ByteArray) (bk bn : Int) (bs : ByteArray) (w : World) : Calls Try.prog 16 #[.agg #[.int .i64 ak, .int .i64 an, .string as_], .agg #[.int .i64 bk, .int .i64 bn, .string bs]] w fun e w' => e = .returned (.tuple #[.agg #[.int .i64 (arV (· - ·) ⟨ak, an, as_⟩ ⟨bk, bn, bs⟩).k, .int .i64 (arV (· - ·) ⟨ak, an, as_⟩ ⟨bk, bn, bs⟩).n, .string (arV (· - ·) ⟨ak, an, as_⟩ ⟨bk, bn, bs⟩).s], .int .i64 (arT (· - ·) ⟨ak, an, as_⟩ ⟨bk, bn, bs⟩)]) ∧ Below w.heap.size w w' := by
  go_enter Try.func16, Try.ntmps16
  go_wp2_with (go_at_call 76; refine (counted_sub _ _ _ _ _ _ _).mono ?_; rintro e w' ⟨rfl, hb⟩; obtain ⟨hc, hf⟩ := bcell hb; have hz := hb.size; (try simp at hz); (try have hz0 : w.heap.size < w'.heap.size := by omega); (try have hz1 : w.heap.size + 1 < w'.heap.size := by omega); (try have hz2 : w.heap.size + 1 + 1 < w'.heap.size := by omega))
  refine bodyPost_ret (v := .tuple #[.agg #[.int .i64 (arV (· - ·) ⟨ak, an, as_⟩ ⟨bk, bn, bs⟩).k, .int .i64 (arV (· - ·) ⟨ak, an, as_⟩ ⟨bk, bn, bs⟩).n, .string (arV (· - ·) ⟨ak, an, as_⟩ ⟨bk, bn, bs⟩).s], .int .i64 (arT (· - ·) ⟨ak, an, as_⟩ ⟨bk, bn, bs⟩)]) (by simp [results, Try.results16, go_sem, true_and, *]) rfl ⟨rfl, (by repeat (first | with_reducible exact Below.refl _ _ | with_reducible assumption | (with_reducible refine bl_set ?_ (by dsimp only; omega) _) | with_reducible refine bl_alloc ?_ _ | with_reducible refine bl_drewN ?_ _ | with_reducible refine bl_drew ?_ | with_reducible refine bl_step ?_ (by with_reducible assumption) | exact Below.refl _ _ | assumption | (refine bl_set ?_ (by dsimp only; omega) _) | refine bl_alloc ?_ _ | refine bl_drewN ?_ _ | refine bl_drew ?_ | refine bl_step ?_ (by assumption)))⟩
theorem fadd (a b : Int) (w : World) (ha : isNumB a = true) (hb : isNumB b = true) : Calls Try.prog 77 #[.int .i64 a, .int .i64 b] w fun e w' => e = .returned (.int .i64 (a + b)) ∧ w = w' := by
  have h1 := isNum_of ha
  have h2 := isNum_of hb
  have h3 : -1000000000000000000 ≤ a + b ∧ a + b ≤ 1000000000000000000 := by omega
  clear ha hb
  obtain ⟨h4, h5⟩ := h1
  obtain ⟨h6, h7⟩ := h2
  obtain ⟨h8, h9⟩ := h3
  go_enter Try.func77, Try.ntmps77
  go_wp2
  go_ret
  exact ⟨rfl, rfl⟩
theorem counted_add (ak an : Int) (as_ : ByteArray) (bk bn : Int) (bs : ByteArray) (w : World) : Calls Try.prog 76 #[.agg #[.int .i64 ak, .int .i64 an, .string as_], .agg #[.int .i64 bk, .int .i64 bn, .string bs], .func (.func 77) #[] #[]] w fun e w' => e = .returned (.tuple #[.agg #[.int .i64 (arV (· + ·) ⟨ak, an, as_⟩ ⟨bk, bn, bs⟩).k, .int .i64 (arV (· + ·) ⟨ak, an, as_⟩ ⟨bk, bn, bs⟩).n, .string (arV (· + ·) ⟨ak, an, as_⟩ ⟨bk, bn, bs⟩).s], .int .i64 (arT (· + ·) ⟨ak, an, as_⟩ ⟨bk, bn, bs⟩)]) ∧ Below w.heap.size w w' := by
  by_cases hk : ak = 1 ∧ bk = 1
  · obtain ⟨rfl, rfl⟩ := hk
    cases ha : isNumB an
    · go_enter Try.func76, Try.ntmps76
      go_wp2_with (first | (go_at_call 75; refine (both _ _ _ _ _ _ _ _).mono ?_; rintro e w' ⟨rfl, hb⟩; obtain ⟨hc, hf⟩ := bcell hb; have hz := hb.size; (try simp at hz); (try have hz0 : w.heap.size < w'.heap.size := by omega); (try have hz1 : w.heap.size + 1 < w'.heap.size := by omega); (try have hz2 : w.heap.size + 1 + 1 < w'.heap.size := by omega)) | (go_at_call 164; refine (isNum_b _ (by assumption)).mono ?_; rintro e w' ⟨rfl, rfl⟩) | (go_at_call 165; refine (intOf _ _).mono ?_; rintro e w' ⟨rfl, hb⟩; obtain ⟨hc, hf⟩ := bcell hb; have hz := hb.size; (try simp at hz); (try have hz0 : w.heap.size < w'.heap.size := by omega); (try have hz1 : w.heap.size + 1 < w'.heap.size := by omega); (try have hz2 : w.heap.size + 1 + 1 < w'.heap.size := by omega)))
      refine bodyPost_ret (v := .tuple #[.agg #[.int .i64 (arV (· + ·) ⟨1, an, as_⟩ ⟨1, bn, bs⟩).k, .int .i64 (arV (· + ·) ⟨1, an, as_⟩ ⟨1, bn, bs⟩).n, .string (arV (· + ·) ⟨1, an, as_⟩ ⟨1, bn, bs⟩).s], .int .i64 (arT (· + ·) ⟨1, an, as_⟩ ⟨1, bn, bs⟩)]) (by simp [results, Try.results76, go_sem, arV, arT, V.zero, intV, *]) rfl ⟨rfl, (by repeat (first | with_reducible exact Below.refl _ _ | with_reducible assumption | (with_reducible refine bl_set ?_ (by dsimp only; omega) _) | with_reducible refine bl_alloc ?_ _ | with_reducible refine bl_drewN ?_ _ | with_reducible refine bl_drew ?_ | with_reducible refine bl_step ?_ (by with_reducible assumption) | exact Below.refl _ _ | assumption | (refine bl_set ?_ (by dsimp only; omega) _) | refine bl_alloc ?_ _ | refine bl_drewN ?_ _ | refine bl_drew ?_ | refine bl_step ?_ (by assumption)))⟩
    · cases hn : isNumB bn
      · go_enter Try.func76, Try.ntmps76
        go_wp2_with (first | (go_at_call 75; refine (both _ _ _ _ _ _ _ _).mono ?_; rintro e w' ⟨rfl, hb⟩; obtain ⟨hc, hf⟩ := bcell hb; have hz := hb.size; (try simp at hz); (try have hz0 : w.heap.size < w'.heap.size := by omega); (try have hz1 : w.heap.size + 1 < w'.heap.size := by omega); (try have hz2 : w.heap.size + 1 + 1 < w'.heap.size := by omega)) | (go_at_call 164; refine (isNum_b _ (by assumption)).mono ?_; rintro e w' ⟨rfl, rfl⟩) | (go_at_call 165; refine (intOf _ _).mono ?_; rintro e w' ⟨rfl, hb⟩; obtain ⟨hc, hf⟩ := bcell hb; have hz := hb.size; (try simp at hz); (try have hz0 : w.heap.size < w'.heap.size := by omega); (try have hz1 : w.heap.size + 1 < w'.heap.size := by omega); (try have hz2 : w.heap.size + 1 + 1 < w'.heap.size := by omega)))
        refine bodyPost_ret (v := .tuple #[.agg #[.int .i64 (arV (· + ·) ⟨1, an, as_⟩ ⟨1, bn, bs⟩).k, .int .i64 (arV (· + ·) ⟨1, an, as_⟩ ⟨1, bn, bs⟩).n, .string (arV (· + ·) ⟨1, an, as_⟩ ⟨1, bn, bs⟩).s], .int .i64 (arT (· + ·) ⟨1, an, as_⟩ ⟨1, bn, bs⟩)]) (by simp [results, Try.results76, go_sem, arV, arT, V.zero, intV, *]) rfl ⟨rfl, (by repeat (first | with_reducible exact Below.refl _ _ | with_reducible assumption | (with_reducible refine bl_set ?_ (by dsimp only; omega) _) | with_reducible refine bl_alloc ?_ _ | with_reducible refine bl_drewN ?_ _ | with_reducible refine bl_drew ?_ | with_reducible refine bl_step ?_ (by with_reducible assumption) | exact Below.refl _ _ | assumption | (refine bl_set ?_ (by dsimp only; omega) _) | refine bl_alloc ?_ _ | refine bl_drewN ?_ _ | refine bl_drew ?_ | refine bl_step ?_ (by assumption)))⟩
      · cases hr : isNumB (an + bn)
        · go_enter Try.func76, Try.ntmps76
          go_wp2_with (first | (go_at_call 75; refine (both _ _ _ _ _ _ _ _).mono ?_; rintro e w' ⟨rfl, hb⟩; obtain ⟨hc, hf⟩ := bcell hb; have hz := hb.size; (try simp at hz); (try have hz0 : w.heap.size < w'.heap.size := by omega); (try have hz1 : w.heap.size + 1 < w'.heap.size := by omega); (try have hz2 : w.heap.size + 1 + 1 < w'.heap.size := by omega)) | (go_at_call 164; refine (isNum_b _ (by assumption)).mono ?_; rintro e w' ⟨rfl, rfl⟩) | (go_at_call 165; refine (intOf _ _).mono ?_; rintro e w' ⟨rfl, hb⟩; obtain ⟨hc, hf⟩ := bcell hb; have hz := hb.size; (try simp at hz); (try have hz0 : w.heap.size < w'.heap.size := by omega); (try have hz1 : w.heap.size + 1 < w'.heap.size := by omega); (try have hz2 : w.heap.size + 1 + 1 < w'.heap.size := by omega)))
          refine (fadd _ _ _ ha hn).mono ?_
          rintro e w'' ⟨rfl, rfl⟩
          go_wp2_with (first | (go_at_call 75; refine (both _ _ _ _ _ _ _ _).mono ?_; rintro e w' ⟨rfl, hb⟩; obtain ⟨hc, hf⟩ := bcell hb; have hz := hb.size; (try simp at hz); (try have hz0 : w.heap.size < w'.heap.size := by omega); (try have hz1 : w.heap.size + 1 < w'.heap.size := by omega); (try have hz2 : w.heap.size + 1 + 1 < w'.heap.size := by omega)) | (go_at_call 164; refine (isNum_b _ (by assumption)).mono ?_; rintro e w' ⟨rfl, rfl⟩) | (go_at_call 165; refine (intOf _ _).mono ?_; rintro e w' ⟨rfl, hb⟩; obtain ⟨hc, hf⟩ := bcell hb; have hz := hb.size; (try simp at hz); (try have hz0 : w.heap.size < w'.heap.size := by omega); (try have hz1 : w.heap.size + 1 < w'.heap.size := by omega); (try have hz2 : w.heap.size + 1 + 1 < w'.heap.size := by omega)))
          refine bodyPost_ret (v := .tuple #[.agg #[.int .i64 (arV (· + ·) ⟨1, an, as_⟩ ⟨1, bn, bs⟩).k, .int .i64 (arV (· + ·) ⟨1, an, as_⟩ ⟨1, bn, bs⟩).n, .string (arV (· + ·) ⟨1, an, as_⟩ ⟨1, bn, bs⟩).s], .int .i64 (arT (· + ·) ⟨1, an, as_⟩ ⟨1, bn, bs⟩)]) (by simp [results, Try.results76, go_sem, arV, arT, V.zero, intV, *]) rfl ⟨rfl, (by repeat (first | with_reducible exact Below.refl _ _ | with_reducible assumption | (with_reducible refine bl_set ?_ (by dsimp only; omega) _) | with_reducible refine bl_alloc ?_ _ | with_reducible refine bl_drewN ?_ _ | with_reducible refine bl_drew ?_ | with_reducible refine bl_step ?_ (by with_reducible assumption) | exact Below.refl _ _ | assumption | (refine bl_set ?_ (by dsimp only; omega) _) | refine bl_alloc ?_ _ | refine bl_drewN ?_ _ | refine bl_drew ?_ | refine bl_step ?_ (by assumption)))⟩
        · go_enter Try.func76, Try.ntmps76
          go_wp2_with (first | (go_at_call 75; refine (both _ _ _ _ _ _ _ _).mono ?_; rintro e w' ⟨rfl, hb⟩; obtain ⟨hc, hf⟩ := bcell hb; have hz := hb.size; (try simp at hz); (try have hz0 : w.heap.size < w'.heap.size := by omega); (try have hz1 : w.heap.size + 1 < w'.heap.size := by omega); (try have hz2 : w.heap.size + 1 + 1 < w'.heap.size := by omega)) | (go_at_call 164; refine (isNum_b _ (by assumption)).mono ?_; rintro e w' ⟨rfl, rfl⟩) | (go_at_call 165; refine (intOf _ _).mono ?_; rintro e w' ⟨rfl, hb⟩; obtain ⟨hc, hf⟩ := bcell hb; have hz := hb.size; (try simp at hz); (try have hz0 : w.heap.size < w'.heap.size := by omega); (try have hz1 : w.heap.size + 1 < w'.heap.size := by omega); (try have hz2 : w.heap.size + 1 + 1 < w'.heap.size := by omega)))
          refine (fadd _ _ _ ha hn).mono ?_
          rintro e w'' ⟨rfl, rfl⟩
          go_wp2_with (first | (go_at_call 75; refine (both _ _ _ _ _ _ _ _).mono ?_; rintro e w' ⟨rfl, hb⟩; obtain ⟨hc, hf⟩ := bcell hb; have hz := hb.size; (try simp at hz); (try have hz0 : w.heap.size < w'.heap.size := by omega); (try have hz1 : w.heap.size + 1 < w'.heap.size := by omega); (try have hz2 : w.heap.size + 1 + 1 < w'.heap.size := by omega)) | (go_at_call 164; refine (isNum_b _ (by assumption)).mono ?_; rintro e w' ⟨rfl, rfl⟩) | (go_at_call 165; refine (intOf _ _).mono ?_; rintro e w' ⟨rfl, hb⟩; obtain ⟨hc, hf⟩ := bcell hb; have hz := hb.size; (try simp at hz); (try have hz0 : w.heap.size < w'.heap.size := by omega); (try have hz1 : w.heap.size + 1 < w'.heap.size := by omega); (try have hz2 : w.heap.size + 1 + 1 < w'.heap.size := by omega)))
          refine (fadd _ _ _ ha hn).mono ?_
          rintro e w'' ⟨rfl, rfl⟩
          go_wp2_with (first | (go_at_call 75; refine (both _ _ _ _ _ _ _ _).mono ?_; rintro e w' ⟨rfl, hb⟩; obtain ⟨hc, hf⟩ := bcell hb; have hz := hb.size; (try simp at hz); (try have hz0 : w.heap.size < w'.heap.size := by omega); (try have hz1 : w.heap.size + 1 < w'.heap.size := by omega); (try have hz2 : w.heap.size + 1 + 1 < w'.heap.size := by omega)) | (go_at_call 164; refine (isNum_b _ (by assumption)).mono ?_; rintro e w' ⟨rfl, rfl⟩) | (go_at_call 165; refine (intOf _ _).mono ?_; rintro e w' ⟨rfl, hb⟩; obtain ⟨hc, hf⟩ := bcell hb; have hz := hb.size; (try simp at hz); (try have hz0 : w.heap.size < w'.heap.size := by omega); (try have hz1 : w.heap.size + 1 < w'.heap.size := by omega); (try have hz2 : w.heap.size + 1 + 1 < w'.heap.size := by omega)))
          refine bodyPost_ret (v := .tuple #[.agg #[.int .i64 (arV (· + ·) ⟨1, an, as_⟩ ⟨1, bn, bs⟩).k, .int .i64 (arV (· + ·) ⟨1, an, as_⟩ ⟨1, bn, bs⟩).n, .string (arV (· + ·) ⟨1, an, as_⟩ ⟨1, bn, bs⟩).s], .int .i64 (arT (· + ·) ⟨1, an, as_⟩ ⟨1, bn, bs⟩)]) (by simp [results, Try.results76, go_sem, arV, arT, V.zero, intV, *]) rfl ⟨rfl, (by repeat (first | with_reducible exact Below.refl _ _ | with_reducible assumption | (with_reducible refine bl_set ?_ (by dsimp only; omega) _) | with_reducible refine bl_alloc ?_ _ | with_reducible refine bl_drewN ?_ _ | with_reducible refine bl_drew ?_ | with_reducible refine bl_step ?_ (by with_reducible assumption) | exact Below.refl _ _ | assumption | (refine bl_set ?_ (by dsimp only; omega) _) | refine bl_alloc ?_ _ | refine bl_drewN ?_ _ | refine bl_drew ?_ | refine bl_step ?_ (by assumption)))⟩
  · have hk' : (ak == 1 && bk == 1) = false := by simpa using hk
    have HK := Lib.hid hk
    clear hk
    go_enter Try.func76, Try.ntmps76
    go_wp2_with (first | (go_at_call 75; refine (both _ _ _ _ _ _ _ _).mono ?_; rintro e w' ⟨rfl, hb⟩; obtain ⟨hc, hf⟩ := bcell hb; have hz := hb.size; (try simp at hz); (try have hz0 : w.heap.size < w'.heap.size := by omega); (try have hz1 : w.heap.size + 1 < w'.heap.size := by omega); (try have hz2 : w.heap.size + 1 + 1 < w'.heap.size := by omega)) | (go_at_call 164; refine (isNum_b _ (by assumption)).mono ?_; rintro e w' ⟨rfl, rfl⟩) | (go_at_call 165; refine (intOf _ _).mono ?_; rintro e w' ⟨rfl, hb⟩; obtain ⟨hc, hf⟩ := bcell hb; have hz := hb.size; (try simp at hz); (try have hz0 : w.heap.size < w'.heap.size := by omega); (try have hz1 : w.heap.size + 1 < w'.heap.size := by omega); (try have hz2 : w.heap.size + 1 + 1 < w'.heap.size := by omega)))
    have hk := HK.out
    refine bodyPost_ret (v := .tuple #[.agg #[.int .i64 (arV (· + ·) ⟨ak, an, as_⟩ ⟨bk, bn, bs⟩).k, .int .i64 (arV (· + ·) ⟨ak, an, as_⟩ ⟨bk, bn, bs⟩).n, .string (arV (· + ·) ⟨ak, an, as_⟩ ⟨bk, bn, bs⟩).s], .int .i64 (arT (· + ·) ⟨ak, an, as_⟩ ⟨bk, bn, bs⟩)]) (by simp [results, Try.results76, go_sem, arV, arT, V.zero, intV, *]) rfl ⟨rfl, (by repeat (first | with_reducible exact Below.refl _ _ | with_reducible assumption | (with_reducible refine bl_set ?_ (by dsimp only; omega) _) | with_reducible refine bl_alloc ?_ _ | with_reducible refine bl_drewN ?_ _ | with_reducible refine bl_drew ?_ | with_reducible refine bl_step ?_ (by with_reducible assumption) | exact Below.refl _ _ | assumption | (refine bl_set ?_ (by dsimp only; omega) _) | refine bl_alloc ?_ _ | refine bl_drewN ?_ _ | refine bl_drew ?_ | refine bl_step ?_ (by assumption)))⟩
theorem arith04_add (a b : Int) (w : World) : Calls Try.prog 166 #[.int .i64 11, .int .i64 a, .int .i64 b] w fun e w' => e = .returned (.tuple #[.int .i64 (arV (· + ·) ⟨1, a, ⟨#[]⟩⟩ ⟨1, b, ⟨#[]⟩⟩).n, .int .i64 (arT (· + ·) ⟨1, a, ⟨#[]⟩⟩ ⟨1, b, ⟨#[]⟩⟩)]) ∧ w = w' := by
  cases ha : isNumB a
  · go_enter Try.func166, Try.ntmps166
    go_wp2_with (first | (go_at_call 191; refine (num04_b _ (by assumption)).mono ?_; rintro e w' ⟨rfl, rfl⟩))
    go_ret2
    exact ⟨by simp [arV, arT, V.zero, ha], rfl⟩
  · cases hn : isNumB b
    · go_enter Try.func166, Try.ntmps166
      go_wp2_with (first | (go_at_call 191; refine (num04_b _ (by assumption)).mono ?_; rintro e w' ⟨rfl, rfl⟩))
      go_ret2
      exact ⟨by simp [arV, arT, V.zero, ha, hn], rfl⟩
    · have h1 := isNum_of ha
      have h2 := isNum_of hn
      have h3 : -1000000000000000000 ≤ a + b ∧ a + b ≤ 1000000000000000000 := by omega
      obtain ⟨h4, h5⟩ := h1
      obtain ⟨h6, h7⟩ := h2
      obtain ⟨h8, h9⟩ := h3
      have h10 : -2000000000 ≤ a + b := by omega
      have h11 : a + b ≤ 2000000000 := by omega
      cases hr : isNumB (a + b)
      · go_enter Try.func166, Try.ntmps166
        go_wp2_with (first | (go_at_call 191; refine (num04_b _ (by assumption)).mono ?_; rintro e w' ⟨rfl, rfl⟩))
        go_ret2
        exact ⟨by simp [arV, arT, V.zero, ha, hn, hr], rfl⟩
      · go_enter Try.func166, Try.ntmps166
        go_wp2_with (first | (go_at_call 191; refine (num04_b _ (by assumption)).mono ?_; rintro e w' ⟨rfl, rfl⟩))
        go_ret2
        exact ⟨by simp [arV, arT, intV, ha, hn, hr], rfl⟩
theorem numbers04_add (ak an : Int) (as_ : ByteArray) (bk bn : Int) (bs : ByteArray) (w : World) : Calls Try.prog 80 #[.int .i64 11, .agg #[.int .i64 ak, .int .i64 an, .string as_], .agg #[.int .i64 bk, .int .i64 bn, .string bs]] w fun e w' => e = .returned (.tuple #[.agg #[.int .i64 (arV (· + ·) ⟨ak, an, as_⟩ ⟨bk, bn, bs⟩).k, .int .i64 (arV (· + ·) ⟨ak, an, as_⟩ ⟨bk, bn, bs⟩).n, .string (arV (· + ·) ⟨ak, an, as_⟩ ⟨bk, bn, bs⟩).s], .int .i64 (arT (· + ·) ⟨ak, an, as_⟩ ⟨bk, bn, bs⟩)]) ∧ Below w.heap.size w w' := by
  by_cases hk : ak = 1 ∧ bk = 1
  · obtain ⟨rfl, rfl⟩ := hk
    by_cases hg : isNumB an = true ∧ isNumB bn = true ∧ isNumB (an + bn) = true
    · have e1 : arT (· + ·) ⟨1, an, ⟨#[]⟩⟩ ⟨1, bn, ⟨#[]⟩⟩ = 0 := by simp [arT, hg]
      have e2 : (arV (· + ·) ⟨1, an, ⟨#[]⟩⟩ ⟨1, bn, ⟨#[]⟩⟩).n = an + bn := by simp [arV, intV, hg]
      have A := arith04_add an bn
      rw [e1, e2] at A
      have HG := Lib.hid hg
      clear hg e1 e2
      go_enter Try.func80, Try.ntmps80
      go_wp2_with (first | (go_at_call 166; refine (A _).mono ?_; rintro e w' ⟨rfl, rfl⟩) | (go_at_call 162; refine (int04 _ _).mono ?_; rintro e w' ⟨rfl, hb⟩; obtain ⟨hc, hf⟩ := bcell hb; have hz := hb.size; (try simp at hz); (try have hz0 : w.heap.size < w'.heap.size := by omega); (try have hz1 : w.heap.size + 1 < w'.heap.size := by omega); (try have hz2 : w.heap.size + 1 + 1 < w'.heap.size := by omega)))
      have hg := HG.out
      refine bodyPost_ret (v := .tuple #[.agg #[.int .i64 (arV (· + ·) ⟨1, an, as_⟩ ⟨1, bn, bs⟩).k, .int .i64 (arV (· + ·) ⟨1, an, as_⟩ ⟨1, bn, bs⟩).n, .string (arV (· + ·) ⟨1, an, as_⟩ ⟨1, bn, bs⟩).s], .int .i64 (arT (· + ·) ⟨1, an, as_⟩ ⟨1, bn, bs⟩)]) (by simp [results, Try.results80, go_sem, arV, arT, V.zero, intV, *]) rfl ⟨rfl, (by repeat (first | with_reducible exact Below.refl _ _ | with_reducible assumption | (with_reducible refine bl_set ?_ (by dsimp only; omega) _) | with_reducible refine bl_alloc ?_ _ | with_reducible refine bl_drewN ?_ _ | with_reducible refine bl_drew ?_ | with_reducible refine bl_step ?_ (by with_reducible assumption) | exact Below.refl _ _ | assumption | (refine bl_set ?_ (by dsimp only; omega) _) | refine bl_alloc ?_ _ | refine bl_drewN ?_ _ | refine bl_drew ?_ | refine bl_step ?_ (by assumption)))⟩
    · have e1 : arT (· + ·) ⟨1, an, ⟨#[]⟩⟩ ⟨1, bn, ⟨#[]⟩⟩ = 2 := by simp only [arT]; rw [if_pos ⟨trivial, trivial⟩, if_neg hg]
      have A := arith04_add an bn
      rw [e1] at A
      have HG := Lib.hid hg
      clear hg e1
      go_enter Try.func80, Try.ntmps80
      go_wp2_with (first | (go_at_call 166; refine (A _).mono ?_; rintro e w' ⟨rfl, rfl⟩) | (go_at_call 162; refine (int04 _ _).mono ?_; rintro e w' ⟨rfl, hb⟩; obtain ⟨hc, hf⟩ := bcell hb; have hz := hb.size; (try simp at hz); (try have hz0 : w.heap.size < w'.heap.size := by omega); (try have hz1 : w.heap.size + 1 < w'.heap.size := by omega); (try have hz2 : w.heap.size + 1 + 1 < w'.heap.size := by omega)))
      have hg := HG.out
      refine bodyPost_ret (v := .tuple #[.agg #[.int .i64 (arV (· + ·) ⟨1, an, as_⟩ ⟨1, bn, bs⟩).k, .int .i64 (arV (· + ·) ⟨1, an, as_⟩ ⟨1, bn, bs⟩).n, .string (arV (· + ·) ⟨1, an, as_⟩ ⟨1, bn, bs⟩).s], .int .i64 (arT (· + ·) ⟨1, an, as_⟩ ⟨1, bn, bs⟩)]) (by simp [results, Try.results80, go_sem, arV, arT, V.zero, intV, *]) rfl ⟨rfl, (by repeat (first | with_reducible exact Below.refl _ _ | with_reducible assumption | (with_reducible refine bl_set ?_ (by dsimp only; omega) _) | with_reducible refine bl_alloc ?_ _ | with_reducible refine bl_drewN ?_ _ | with_reducible refine bl_drew ?_ | with_reducible refine bl_step ?_ (by with_reducible assumption) | exact Below.refl _ _ | assumption | (refine bl_set ?_ (by dsimp only; omega) _) | refine bl_alloc ?_ _ | refine bl_drewN ?_ _ | refine bl_drew ?_ | refine bl_step ?_ (by assumption)))⟩
  · by_cases ha : ak = 1
    · subst ha
      have hb' : (bk != 1) = true := by simpa using hk
      have HK := Lib.hid hk
      clear hk
      go_enter Try.func80, Try.ntmps80
      go_wp2
      have hk := HK.out
      refine bodyPost_ret (v := .tuple #[.agg #[.int .i64 (arV (· + ·) ⟨1, an, as_⟩ ⟨bk, bn, bs⟩).k, .int .i64 (arV (· + ·) ⟨1, an, as_⟩ ⟨bk, bn, bs⟩).n, .string (arV (· + ·) ⟨1, an, as_⟩ ⟨bk, bn, bs⟩).s], .int .i64 (arT (· + ·) ⟨1, an, as_⟩ ⟨bk, bn, bs⟩)]) (by simp [results, Try.results80, go_sem, arV, arT, V.zero, intV, *]) rfl ⟨rfl, (by repeat (first | with_reducible exact Below.refl _ _ | with_reducible assumption | (with_reducible refine bl_set ?_ (by dsimp only; omega) _) | with_reducible refine bl_alloc ?_ _ | with_reducible refine bl_drewN ?_ _ | with_reducible refine bl_drew ?_ | with_reducible refine bl_step ?_ (by with_reducible assumption) | exact Below.refl _ _ | assumption | (refine bl_set ?_ (by dsimp only; omega) _) | refine bl_alloc ?_ _ | refine bl_drewN ?_ _ | refine bl_drew ?_ | refine bl_step ?_ (by assumption)))⟩
    · have ha' : (ak != 1) = true := by simpa using ha
      clear hk
      go_enter Try.func80, Try.ntmps80
      go_wp2
      refine bodyPost_ret (v := .tuple #[.agg #[.int .i64 (arV (· + ·) ⟨ak, an, as_⟩ ⟨bk, bn, bs⟩).k, .int .i64 (arV (· + ·) ⟨ak, an, as_⟩ ⟨bk, bn, bs⟩).n, .string (arV (· + ·) ⟨ak, an, as_⟩ ⟨bk, bn, bs⟩).s], .int .i64 (arT (· + ·) ⟨ak, an, as_⟩ ⟨bk, bn, bs⟩)]) (by simp [results, Try.results80, go_sem, arV, arT, V.zero, intV, *]) rfl ⟨rfl, (by repeat (first | with_reducible exact Below.refl _ _ | with_reducible assumption | (with_reducible refine bl_set ?_ (by dsimp only; omega) _) | with_reducible refine bl_alloc ?_ _ | with_reducible refine bl_drewN ?_ _ | with_reducible refine bl_drew ?_ | with_reducible refine bl_step ?_ (by with_reducible assumption) | exact Below.refl _ _ | assumption | (refine bl_set ?_ (by dsimp only; omega) _) | refine bl_alloc ?_ _ | refine bl_drewN ?_ _ | refine bl_drew ?_ | refine bl_step ?_ (by assumption)))⟩
end Go.Proofs.Ytpjdecneeakkeaa.Val
