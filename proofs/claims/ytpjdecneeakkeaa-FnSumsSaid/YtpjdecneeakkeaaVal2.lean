/- Values: AddOf (texts too); and how a value is copied, measured and compared by the laws. -/
import Derived.Test.YtpjdecneeakkeaaArith
namespace Go.Proofs.Ytpjdecneeakkeaa.Val
open Go Go.RowKit Go.Proofs.Ytpjdecneeakkeaa.Mem
set_option linter.unusedVariables false
set_option linter.unusedSimpArgs false
def addV (a b : V) : V := if a.k = 3 ∧ b.k = 3 then (if a.s.size + b.s.size ≤ 60 then ⟨3, 0, a.s ++ b.s⟩ else V.zero) else arV (· + ·) a b
def addT (a b : V) : Int := if a.k = 3 ∧ b.k = 3 then (if a.s.size + b.s.size ≤ 60 then 0 else 3) else arT (· + ·) a b
theorem addI (ak an : Int) (as_ : ByteArray) (bk bn : Int) (bs : ByteArray) (w : World) (ha : as_.size ≤ 9223372036854775807) (hb : bs.size ≤ 1152921504606846976) (ha' : as_.size ≤ 1152921504606846976) : Calls Try.prog 14 #[.agg #[.int .i64 ak, .int .i64 an, .string as_], .agg #[.int .i64 bk, .int .i64 bn, .string bs]] w fun e w' => e = .returned (.tuple #[.agg #[.int .i64 (addV ⟨ak, an, as_⟩ ⟨bk, bn, bs⟩).k, .int .i64 (addV ⟨ak, an, as_⟩ ⟨bk, bn, bs⟩).n, .string (addV ⟨ak, an, as_⟩ ⟨bk, bn, bs⟩).s], .int .i64 (addT ⟨ak, an, as_⟩ ⟨bk, bn, bs⟩)]) ∧ Below w.heap.size w w' := by
  by_cases hk : ak = 3 ∧ bk = 3
  · obtain ⟨rfl, rfl⟩ := hk
    by_cases hs : as_.size + bs.size ≤ 60
    · have hs1 : (as_.size : Int) + (bs.size : Int) ≤ 60 := by omega
      go_enter Try.func14, Try.ntmps14
      go_wp2_with (go_at_call 75; refine (both _ _ _ _ _ _ _ _).mono ?_; rintro e w' ⟨rfl, hb⟩; obtain ⟨hc, hf⟩ := bcell hb; have hz := hb.size; (try simp at hz); (try have hz0 : w.heap.size < w'.heap.size := by omega); (try have hz1 : w.heap.size + 1 < w'.heap.size := by omega); (try have hz2 : w.heap.size + 1 + 1 < w'.heap.size := by omega))
      refine bodyPost_ret (v := .tuple #[.agg #[.int .i64 (addV ⟨3, an, as_⟩ ⟨3, bn, bs⟩).k, .int .i64 (addV ⟨3, an, as_⟩ ⟨3, bn, bs⟩).n, .string (addV ⟨3, an, as_⟩ ⟨3, bn, bs⟩).s], .int .i64 (addT ⟨3, an, as_⟩ ⟨3, bn, bs⟩)]) (by simp [results, Try.results14, go_sem, addV, addT, *]) rfl ⟨rfl, (by repeat (first | with_reducible exact Below.refl _ _ | with_reducible assumption | (with_reducible refine bl_set ?_ (by dsimp only; omega) _) | with_reducible refine bl_alloc ?_ _ | with_reducible refine bl_drewN ?_ _ | with_reducible refine bl_drew ?_ | with_reducible refine bl_step ?_ (by with_reducible assumption) | exact Below.refl _ _ | assumption | (refine bl_set ?_ (by dsimp only; omega) _) | refine bl_alloc ?_ _ | refine bl_drewN ?_ _ | refine bl_drew ?_ | refine bl_step ?_ (by assumption)))⟩
    · have hs1 : 60 < (as_.size : Int) + (bs.size : Int) := by omega
      go_enter Try.func14, Try.ntmps14
      go_wp2_with (go_at_call 75; refine (both _ _ _ _ _ _ _ _).mono ?_; rintro e w' ⟨rfl, hb⟩; obtain ⟨hc, hf⟩ := bcell hb; have hz := hb.size; (try simp at hz); (try have hz0 : w.heap.size < w'.heap.size := by omega); (try have hz1 : w.heap.size + 1 < w'.heap.size := by omega); (try have hz2 : w.heap.size + 1 + 1 < w'.heap.size := by omega))
      refine bodyPost_ret (v := .tuple #[.agg #[.int .i64 (addV ⟨3, an, as_⟩ ⟨3, bn, bs⟩).k, .int .i64 (addV ⟨3, an, as_⟩ ⟨3, bn, bs⟩).n, .string (addV ⟨3, an, as_⟩ ⟨3, bn, bs⟩).s], .int .i64 (addT ⟨3, an, as_⟩ ⟨3, bn, bs⟩)]) (by simp [results, Try.results14, go_sem, addV, addT, V.zero, *]) rfl ⟨rfl, (by repeat (first | with_reducible exact Below.refl _ _ | with_reducible assumption | (with_reducible refine bl_set ?_ (by dsimp only; omega) _) | with_reducible refine bl_alloc ?_ _ | with_reducible refine bl_drewN ?_ _ | with_reducible refine bl_drew ?_ | with_reducible refine bl_step ?_ (by with_reducible assumption) | exact Below.refl _ _ | assumption | (refine bl_set ?_ (by dsimp only; omega) _) | refine bl_alloc ?_ _ | refine bl_drewN ?_ _ | refine bl_drew ?_ | refine bl_step ?_ (by assumption)))⟩
  · have hk' : (ak == 3 && bk == 3) = false := by simpa using hk
    have HK := Lib.hid hk
    clear hk
    go_enter Try.func14, Try.ntmps14
    go_wp2_with (first | (go_at_call 75; refine (both _ _ _ _ _ _ _ _).mono ?_; rintro e w' ⟨rfl, hb⟩; obtain ⟨hc, hf⟩ := bcell hb; have hz := hb.size; (try simp at hz); (try have hz0 : w.heap.size < w'.heap.size := by omega); (try have hz1 : w.heap.size + 1 < w'.heap.size := by omega); (try have hz2 : w.heap.size + 1 + 1 < w'.heap.size := by omega)) | (go_at_call 76; refine (counted_add _ _ _ _ _ _ _).mono ?_; rintro e w' ⟨rfl, hb⟩; obtain ⟨hc, hf⟩ := bcell hb; have hz := hb.size; (try simp at hz); (try have hz0 : w.heap.size < w'.heap.size := by omega); (try have hz1 : w.heap.size + 1 < w'.heap.size := by omega); (try have hz2 : w.heap.size + 1 + 1 < w'.heap.size := by omega)))
    have hk := HK.out
    refine bodyPost_ret (v := .tuple #[.agg #[.int .i64 (addV ⟨ak, an, as_⟩ ⟨bk, bn, bs⟩).k, .int .i64 (addV ⟨ak, an, as_⟩ ⟨bk, bn, bs⟩).n, .string (addV ⟨ak, an, as_⟩ ⟨bk, bn, bs⟩).s], .int .i64 (addT ⟨ak, an, as_⟩ ⟨bk, bn, bs⟩)]) (by simp [results, Try.results14, go_sem, addV, addT, *]) rfl ⟨rfl, (by repeat (first | with_reducible exact Below.refl _ _ | with_reducible assumption | (with_reducible refine bl_set ?_ (by dsimp only; omega) _) | with_reducible refine bl_alloc ?_ _ | with_reducible refine bl_drewN ?_ _ | with_reducible refine bl_drew ?_ | with_reducible refine bl_step ?_ (by with_reducible assumption) | exact Below.refl _ _ | assumption | (refine bl_set ?_ (by dsimp only; omega) _) | refine bl_alloc ?_ _ | refine bl_drewN ?_ _ | refine bl_drew ?_ | refine bl_step ?_ (by assumption)))⟩
theorem add04 (ak an : Int) (as_ : ByteArray) (bk bn : Int) (bs : ByteArray) (w : World) (hb : bs.size ≤ 1152921504606846976) (ha' : as_.size ≤ 1152921504606846976) : Calls Try.prog 17 #[.agg #[.int .i64 ak, .int .i64 an, .string as_], .agg #[.int .i64 bk, .int .i64 bn, .string bs]] w fun e w' => e = .returned (.tuple #[.agg #[.int .i64 (addV ⟨ak, an, as_⟩ ⟨bk, bn, bs⟩).k, .int .i64 (addV ⟨ak, an, as_⟩ ⟨bk, bn, bs⟩).n, .string (addV ⟨ak, an, as_⟩ ⟨bk, bn, bs⟩).s], .int .i64 (addT ⟨ak, an, as_⟩ ⟨bk, bn, bs⟩)]) ∧ Below w.heap.size w w' := by
  by_cases hk : ak = 3 ∧ bk = 3
  · obtain ⟨rfl, rfl⟩ := hk
    by_cases hs : as_.size + bs.size ≤ 60
    · have hs1 : (as_.size : Int) ≤ 60 - (bs.size : Int) := by omega
      go_enter Try.func17, Try.ntmps17
      go_wp2
      refine bodyPost_ret (v := .tuple #[.agg #[.int .i64 (addV ⟨3, an, as_⟩ ⟨3, bn, bs⟩).k, .int .i64 (addV ⟨3, an, as_⟩ ⟨3, bn, bs⟩).n, .string (addV ⟨3, an, as_⟩ ⟨3, bn, bs⟩).s], .int .i64 (addT ⟨3, an, as_⟩ ⟨3, bn, bs⟩)]) (by simp [results, Try.results17, go_sem, addV, addT, *]) rfl ⟨rfl, (by repeat (first | with_reducible exact Below.refl _ _ | with_reducible assumption | (with_reducible refine bl_set ?_ (by dsimp only; omega) _) | with_reducible refine bl_alloc ?_ _ | with_reducible refine bl_drewN ?_ _ | with_reducible refine bl_drew ?_ | with_reducible refine bl_step ?_ (by with_reducible assumption) | exact Below.refl _ _ | assumption | (refine bl_set ?_ (by dsimp only; omega) _) | refine bl_alloc ?_ _ | refine bl_drewN ?_ _ | refine bl_drew ?_ | refine bl_step ?_ (by assumption)))⟩
    · have hs1 : 60 - (bs.size : Int) < (as_.size : Int) := by omega
      go_enter Try.func17, Try.ntmps17
      go_wp2
      refine bodyPost_ret (v := .tuple #[.agg #[.int .i64 (addV ⟨3, an, as_⟩ ⟨3, bn, bs⟩).k, .int .i64 (addV ⟨3, an, as_⟩ ⟨3, bn, bs⟩).n, .string (addV ⟨3, an, as_⟩ ⟨3, bn, bs⟩).s], .int .i64 (addT ⟨3, an, as_⟩ ⟨3, bn, bs⟩)]) (by simp [results, Try.results17, go_sem, addV, addT, V.zero, *]) rfl ⟨rfl, (by repeat (first | with_reducible exact Below.refl _ _ | with_reducible assumption | (with_reducible refine bl_set ?_ (by dsimp only; omega) _) | with_reducible refine bl_alloc ?_ _ | with_reducible refine bl_drewN ?_ _ | with_reducible refine bl_drew ?_ | with_reducible refine bl_step ?_ (by with_reducible assumption) | exact Below.refl _ _ | assumption | (refine bl_set ?_ (by dsimp only; omega) _) | refine bl_alloc ?_ _ | refine bl_drewN ?_ _ | refine bl_drew ?_ | refine bl_step ?_ (by assumption)))⟩
  · by_cases h3 : ak = 3
    · subst h3
      have hb' : ¬ bk = 3 := fun e => hk ⟨rfl, e⟩
      have HK := Lib.hid hk
      clear hk
      go_enter Try.func17, Try.ntmps17
      go_wp2_with (go_at_call 80; refine (numbers04_add _ _ _ _ _ _ _).mono ?_; rintro e w' ⟨rfl, hb⟩; obtain ⟨hc, hf⟩ := bcell hb; have hz := hb.size; (try simp at hz); (try have hz0 : w.heap.size < w'.heap.size := by omega); (try have hz1 : w.heap.size + 1 < w'.heap.size := by omega); (try have hz2 : w.heap.size + 1 + 1 < w'.heap.size := by omega))
      have hk := HK.out
      refine bodyPost_ret (v := .tuple #[.agg #[.int .i64 (addV ⟨3, an, as_⟩ ⟨bk, bn, bs⟩).k, .int .i64 (addV ⟨3, an, as_⟩ ⟨bk, bn, bs⟩).n, .string (addV ⟨3, an, as_⟩ ⟨bk, bn, bs⟩).s], .int .i64 (addT ⟨3, an, as_⟩ ⟨bk, bn, bs⟩)]) (by simp [results, Try.results17, go_sem, addV, addT, *]) rfl ⟨rfl, (by repeat (first | with_reducible exact Below.refl _ _ | with_reducible assumption | (with_reducible refine bl_set ?_ (by dsimp only; omega) _) | with_reducible refine bl_alloc ?_ _ | with_reducible refine bl_drewN ?_ _ | with_reducible refine bl_drew ?_ | with_reducible refine bl_step ?_ (by with_reducible assumption) | exact Below.refl _ _ | assumption | (refine bl_set ?_ (by dsimp only; omega) _) | refine bl_alloc ?_ _ | refine bl_drewN ?_ _ | refine bl_drew ?_ | refine bl_step ?_ (by assumption)))⟩
    · have HK := Lib.hid hk
      clear hk
      go_enter Try.func17, Try.ntmps17
      go_wp2_with (go_at_call 80; refine (numbers04_add _ _ _ _ _ _ _).mono ?_; rintro e w' ⟨rfl, hb⟩; obtain ⟨hc, hf⟩ := bcell hb; have hz := hb.size; (try simp at hz); (try have hz0 : w.heap.size < w'.heap.size := by omega); (try have hz1 : w.heap.size + 1 < w'.heap.size := by omega); (try have hz2 : w.heap.size + 1 + 1 < w'.heap.size := by omega))
      have hk := HK.out
      refine bodyPost_ret (v := .tuple #[.agg #[.int .i64 (addV ⟨ak, an, as_⟩ ⟨bk, bn, bs⟩).k, .int .i64 (addV ⟨ak, an, as_⟩ ⟨bk, bn, bs⟩).n, .string (addV ⟨ak, an, as_⟩ ⟨bk, bn, bs⟩).s], .int .i64 (addT ⟨ak, an, as_⟩ ⟨bk, bn, bs⟩)]) (by simp [results, Try.results17, go_sem, addV, addT, *]) rfl ⟨rfl, (by repeat (first | with_reducible exact Below.refl _ _ | with_reducible assumption | (with_reducible refine bl_set ?_ (by dsimp only; omega) _) | with_reducible refine bl_alloc ?_ _ | with_reducible refine bl_drewN ?_ _ | with_reducible refine bl_drew ?_ | with_reducible refine bl_step ?_ (by with_reducible assumption) | exact Below.refl _ _ | assumption | (refine bl_set ?_ (by dsimp only; omega) _) | refine bl_alloc ?_ _ | refine bl_drewN ?_ _ | refine bl_drew ?_ | refine bl_step ?_ (by assumption)))⟩

/-! ### the laws' own -/
theorem toV (ak an : Int) (as_ : ByteArray) (w : World) : Calls Try.prog 116 #[.agg #[.int .i64 ak, .int .i64 an, .string as_]] w fun e w' => e = .returned (.agg #[.int .i64 ak, .int .i64 an, .string as_]) ∧ Below w.heap.size w w' := by
  go_enter Try.func116, Try.ntmps116
  go_wp2
  refine bodyPost_ret (v := .agg #[.int .i64 ak, .int .i64 an, .string as_]) (by simp [results, Try.results116, go_sem, true_and, *]) rfl ⟨rfl, (by repeat (first | with_reducible exact Below.refl _ _ | with_reducible assumption | (with_reducible refine bl_set ?_ (by dsimp only; omega) _) | with_reducible refine bl_alloc ?_ _ | with_reducible refine bl_drewN ?_ _ | with_reducible refine bl_drew ?_ | with_reducible refine bl_step ?_ (by with_reducible assumption) | exact Below.refl _ _ | assumption | (refine bl_set ?_ (by dsimp only; omega) _) | refine bl_alloc ?_ _ | refine bl_drewN ?_ _ | refine bl_drew ?_ | refine bl_step ?_ (by assumption)))⟩
/-- What is left behind a size. -/
def lft (n : Nat) (left : Int) : Int := if (n : Int) ≤ left then left - n else -1
theorem szV (ak an : Int) (as_ : ByteArray) (left : Int) (w : World) (hm : as_.size ≤ maxLen) (h0 : 0 ≤ left) (h1 : left ≤ 1048576) : Calls Try.prog 114 #[.agg #[.int .i64 ak, .int .i64 an, .string as_], .int .i64 left] w fun e w' => e = .returned (.int .i64 (lft as_.size left)) ∧ Below w.heap.size w w' := by
  unfold maxLen at hm
  by_cases h : (as_.size : Int) ≤ left
  · have h2 : 0 ≤ left - (as_.size : Int) := by omega
    go_enter Try.func114, Try.ntmps114
    go_wp2
    go_ret
    exact ⟨by simp [lft, h], (by repeat (first | with_reducible exact Below.refl _ _ | with_reducible assumption | (with_reducible refine bl_set ?_ (by dsimp only; omega) _) | with_reducible refine bl_alloc ?_ _ | with_reducible refine bl_drewN ?_ _ | with_reducible refine bl_drew ?_ | with_reducible refine bl_step ?_ (by with_reducible assumption) | exact Below.refl _ _ | assumption | (refine bl_set ?_ (by dsimp only; omega) _) | refine bl_alloc ?_ _ | refine bl_drewN ?_ _ | refine bl_drew ?_ | refine bl_step ?_ (by assumption)))⟩
  · have h2 : left - (as_.size : Int) < 0 := by omega
    go_enter Try.func114, Try.ntmps114
    go_wp2
    go_ret
    exact ⟨by simp [lft]; omega, (by repeat (first | with_reducible exact Below.refl _ _ | with_reducible assumption | (with_reducible refine bl_set ?_ (by dsimp only; omega) _) | with_reducible refine bl_alloc ?_ _ | with_reducible refine bl_drewN ?_ _ | with_reducible refine bl_drew ?_ | with_reducible refine bl_step ?_ (by with_reducible assumption) | exact Below.refl _ _ | assumption | (refine bl_set ?_ (by dsimp only; omega) _) | refine bl_alloc ?_ _ | refine bl_drewN ?_ _ | refine bl_drew ?_ | refine bl_step ?_ (by assumption)))⟩
theorem eqV (ak an : Int) (as_ : ByteArray) (w : World) : Calls Try.prog 121 #[.agg #[.int .i64 ak, .int .i64 an, .string as_], .agg #[.int .i64 ak, .int .i64 an, .string as_]] w fun e w' => e = .returned (.bool true) ∧ Below w.heap.size w w' := by
  go_enter Try.func121, Try.ntmps121
  go_wp2
  go_ret
  exact ⟨rfl, (by repeat (first | with_reducible exact Below.refl _ _ | with_reducible assumption | (with_reducible refine bl_set ?_ (by dsimp only; omega) _) | with_reducible refine bl_alloc ?_ _ | with_reducible refine bl_drewN ?_ _ | with_reducible refine bl_drew ?_ | with_reducible refine bl_step ?_ (by with_reducible assumption) | exact Below.refl _ _ | assumption | (refine bl_set ?_ (by dsimp only; omega) _) | refine bl_alloc ?_ _ | refine bl_drewN ?_ _ | refine bl_drew ?_ | refine bl_step ?_ (by assumption)))⟩
end Go.Proofs.Ytpjdecneeakkeaa.Val
