/- Values: what the small functions of chapter 4 answer, in the program and in the reference. -/
import Derived.Test.YtpjdecneeakkeaaK1
import Derived.Test.YtpjdecneeakkeaaProg
import Derived.WalkLawsBesides
import Derived.WalkSpells
import Derived.Lib.Hide
namespace Go.Proofs.Ytpjdecneeakkeaa.Val
open Go Go.RowKit Go.Proofs.Ytpjdecneeakkeaa.Mem
set_option linter.unusedVariables false
set_option linter.unusedSimpArgs false

def btw (a b c : Int) : Bool := decide (b ≤ a) && decide (a ≤ c)
theorem btw_true {a b c : Int} : btw a b c = true ↔ b ≤ a ∧ a ≤ c := by simp [btw]
theorem btw_false {a b c : Int} : btw a b c = false ↔ ¬ (b ≤ a ∧ a ≤ c) := by
  rw [← btw_true]
  cases btw a b c <;> simp
def isNumB (n : Int) : Bool := btw n (-1000000000) 1000000000

theorem inRange (a b c : Int) (w : World) : Calls Try.prog 133 #[.int .i64 a, .int .i64 b, .int .i64 c] w fun e w' => e = .returned (.bool (btw a b c)) ∧ w = w' := by
  by_cases h1 : b ≤ a
  · go_enter Try.func133, Try.ntmps133
    go_wp2
    go_ret
    exact ⟨by simp [btw, h1], rfl⟩
  · go_enter Try.func133, Try.ntmps133
    go_wp2
    go_ret
    exact ⟨by simp [btw, h1]; omega, rfl⟩
theorem isNum (n : Int) (w : World) : Calls Try.prog 164 #[.int .i64 n] w fun e w' => e = .returned (.bool (isNumB n)) ∧ w = w' := by
  go_enter Try.func164, Try.ntmps164
  go_wp2_with (go_at_call 133; refine (inRange _ _ _ _).mono ?_; rintro e w' ⟨rfl, rfl⟩)
  go_ret
  exact ⟨rfl, rfl⟩
theorem between (a b c : Int) (w : World) : Calls Try.prog 128 #[.int .i64 a, .int .i64 b, .int .i64 c] w fun e w' => e = .returned (.bool (btw a b c)) ∧ w = w' := by
  by_cases h1 : b ≤ a
  · go_enter Try.func128, Try.ntmps128
    go_wp2
    go_ret
    exact ⟨by simp [btw, h1], rfl⟩
  · go_enter Try.func128, Try.ntmps128
    go_wp2
    go_ret
    exact ⟨by simp [btw, h1]; omega, rfl⟩
theorem num04 (n : Int) (w : World) : Calls Try.prog 191 #[.int .i64 n] w fun e w' => e = .returned (.bool (isNumB n)) ∧ w = w' := by
  go_enter Try.func191, Try.ntmps191
  go_wp2_with (go_at_call 128; refine (between _ _ _ _).mono ?_; rintro e w' ⟨rfl, rfl⟩)
  go_ret
  exact ⟨rfl, rfl⟩

structure V where
  k : Int
  n : Int
  s : ByteArray
def V.zero : V := ⟨0, 0, ⟨#[]⟩⟩
def b01 (b : Bool) : Int := if b then 1 else 0
def boolV (b : Bool) : V := ⟨2, b01 b, ⟨#[]⟩⟩
def intV (n : Int) : V := ⟨1, n, ⟨#[]⟩⟩

theorem boolOf (b : Bool) (w : World) : Calls Try.prog 81 #[.bool b] w fun e w' => e = .returned (.agg #[.int .i64 2, .int .i64 (b01 b), .string ⟨#[]⟩]) ∧ Below w.heap.size w w' := by
  cases b
  · go_enter Try.func81, Try.ntmps81
    go_wp2
    refine bodyPost_ret (v := .agg #[.int .i64 2, .int .i64 0, .string ⟨#[]⟩]) (by simp [results, Try.results81, go_sem, *]) rfl ⟨rfl, (by repeat (first | with_reducible exact Below.refl _ _ | with_reducible assumption | (with_reducible refine bl_set ?_ (by dsimp only; omega) _) | with_reducible refine bl_alloc ?_ _ | with_reducible refine bl_drewN ?_ _ | with_reducible refine bl_drew ?_ | with_reducible refine bl_step ?_ (by with_reducible assumption) | exact Below.refl _ _ | assumption | (refine bl_set ?_ (by dsimp only; omega) _) | refine bl_alloc ?_ _ | refine bl_drewN ?_ _ | refine bl_drew ?_ | refine bl_step ?_ (by assumption)))⟩
  · go_enter Try.func81, Try.ntmps81
    go_wp2
    refine bodyPost_ret (v := .agg #[.int .i64 2, .int .i64 1, .string ⟨#[]⟩]) (by simp [results, Try.results81, go_sem, *]) rfl ⟨rfl, (by repeat (first | with_reducible exact Below.refl _ _ | with_reducible assumption | (with_reducible refine bl_set ?_ (by dsimp only; omega) _) | with_reducible refine bl_alloc ?_ _ | with_reducible refine bl_drewN ?_ _ | with_reducible refine bl_drew ?_ | with_reducible refine bl_step ?_ (by with_reducible assumption) | exact Below.refl _ _ | assumption | (refine bl_set ?_ (by dsimp only; omega) _) | refine bl_alloc ?_ _ | refine bl_drewN ?_ _ | refine bl_drew ?_ | refine bl_step ?_ (by assumption)))⟩
theorem bool04 (b : Bool) (w : World) : Calls Try.prog 83 #[.bool b] w fun e w' => e = .returned (.agg #[.int .i64 2, .int .i64 (b01 b), .string ⟨#[]⟩]) ∧ Below w.heap.size w w' := by
  cases b
  · go_enter Try.func83, Try.ntmps83
    go_wp2
    refine bodyPost_ret (v := .agg #[.int .i64 2, .int .i64 0, .string ⟨#[]⟩]) (by simp [results, Try.results83, go_sem, *]) rfl ⟨rfl, (by repeat (first | with_reducible exact Below.refl _ _ | with_reducible assumption | (with_reducible refine bl_set ?_ (by dsimp only; omega) _) | with_reducible refine bl_alloc ?_ _ | with_reducible refine bl_drewN ?_ _ | with_reducible refine bl_drew ?_ | with_reducible refine bl_step ?_ (by with_reducible assumption) | exact Below.refl _ _ | assumption | (refine bl_set ?_ (by dsimp only; omega) _) | refine bl_alloc ?_ _ | refine bl_drewN ?_ _ | refine bl_drew ?_ | refine bl_step ?_ (by assumption)))⟩
  · go_enter Try.func83, Try.ntmps83
    go_wp2
    refine bodyPost_ret (v := .agg #[.int .i64 2, .int .i64 1, .string ⟨#[]⟩]) (by simp [results, Try.results83, go_sem, *]) rfl ⟨rfl, (by repeat (first | with_reducible exact Below.refl _ _ | with_reducible assumption | (with_reducible refine bl_set ?_ (by dsimp only; omega) _) | with_reducible refine bl_alloc ?_ _ | with_reducible refine bl_drewN ?_ _ | with_reducible refine bl_drew ?_ | with_reducible refine bl_step ?_ (by with_reducible assumption) | exact Below.refl _ _ | assumption | (refine bl_set ?_ (by dsimp only; omega) _) | refine bl_alloc ?_ _ | refine bl_drewN ?_ _ | refine bl_drew ?_ | refine bl_step ?_ (by assumption)))⟩
theorem intOf (n : Int) (w : World) : Calls Try.prog 165 #[.int .i64 n] w fun e w' => e = .returned (.agg #[.int .i64 1, .int .i64 n, .string ⟨#[]⟩]) ∧ Below w.heap.size w w' := by
  go_enter Try.func165, Try.ntmps165
  go_wp2
  refine bodyPost_ret (v := .agg #[.int .i64 1, .int .i64 n, .string ⟨#[]⟩]) (by simp [results, Try.results165, go_sem, *]) rfl ⟨rfl, (by repeat (first | with_reducible exact Below.refl _ _ | with_reducible assumption | (with_reducible refine bl_set ?_ (by dsimp only; omega) _) | with_reducible refine bl_alloc ?_ _ | with_reducible refine bl_drewN ?_ _ | with_reducible refine bl_drew ?_ | with_reducible refine bl_step ?_ (by with_reducible assumption) | exact Below.refl _ _ | assumption | (refine bl_set ?_ (by dsimp only; omega) _) | refine bl_alloc ?_ _ | refine bl_drewN ?_ _ | refine bl_drew ?_ | refine bl_step ?_ (by assumption)))⟩
theorem int04 (n : Int) (w : World) : Calls Try.prog 162 #[.int .i64 n] w fun e w' => e = .returned (.agg #[.int .i64 1, .int .i64 n, .string ⟨#[]⟩]) ∧ Below w.heap.size w w' := by
  go_enter Try.func162, Try.ntmps162
  go_wp2
  refine bodyPost_ret (v := .agg #[.int .i64 1, .int .i64 n, .string ⟨#[]⟩]) (by simp [results, Try.results162, go_sem, *]) rfl ⟨rfl, (by repeat (first | with_reducible exact Below.refl _ _ | with_reducible assumption | (with_reducible refine bl_set ?_ (by dsimp only; omega) _) | with_reducible refine bl_alloc ?_ _ | with_reducible refine bl_drewN ?_ _ | with_reducible refine bl_drew ?_ | with_reducible refine bl_step ?_ (by with_reducible assumption) | exact Below.refl _ _ | assumption | (refine bl_set ?_ (by dsimp only; omega) _) | refine bl_alloc ?_ _ | refine bl_drewN ?_ _ | refine bl_drew ?_ | refine bl_step ?_ (by assumption)))⟩
theorem both (ak an : Int) (as_ : ByteArray) (bk bn : Int) (bs : ByteArray) (k : Int) (w : World) : Calls Try.prog 75 #[.agg #[.int .i64 ak, .int .i64 an, .string as_], .agg #[.int .i64 bk, .int .i64 bn, .string bs], .int .i64 k] w fun e w' => e = .returned (.bool (ak == k && bk == k)) ∧ Below w.heap.size w w' := by
  by_cases h1 : ak = k
  · go_enter Try.func75, Try.ntmps75
    go_wp2
    go_ret
    exact ⟨by simp [h1], (by repeat (first | with_reducible exact Below.refl _ _ | with_reducible assumption | (with_reducible refine bl_set ?_ (by dsimp only; omega) _) | with_reducible refine bl_alloc ?_ _ | with_reducible refine bl_drewN ?_ _ | with_reducible refine bl_drew ?_ | with_reducible refine bl_step ?_ (by with_reducible assumption) | exact Below.refl _ _ | assumption | (refine bl_set ?_ (by dsimp only; omega) _) | refine bl_alloc ?_ _ | refine bl_drewN ?_ _ | refine bl_drew ?_ | refine bl_step ?_ (by assumption)))⟩
  · have h1' : (ak == k) = false := by simpa using h1
    go_enter Try.func75, Try.ntmps75
    go_wp2
    go_ret
    exact ⟨by simp [h1'], (by repeat (first | with_reducible exact Below.refl _ _ | with_reducible assumption | (with_reducible refine bl_set ?_ (by dsimp only; omega) _) | with_reducible refine bl_alloc ?_ _ | with_reducible refine bl_drewN ?_ _ | with_reducible refine bl_drew ?_ | with_reducible refine bl_step ?_ (by with_reducible assumption) | exact Below.refl _ _ | assumption | (refine bl_set ?_ (by dsimp only; omega) _) | refine bl_alloc ?_ _ | refine bl_drewN ?_ _ | refine bl_drew ?_ | refine bl_step ?_ (by assumption)))⟩

/-! ### SameOf, NotOf, LessOf -/
theorem beq_dec (x y : List UInt8) : (x == y) = decide (x = y) := by by_cases h : x = y <;> simp [h]
def sameV (a b : V) : V := boolV (decide (a.k = b.k ∧ a.n = b.n ∧ a.s.toList = b.s.toList))
theorem sameI (ak an : Int) (as_ : ByteArray) (bk bn : Int) (bs : ByteArray) (w : World) : Calls Try.prog 20 #[.agg #[.int .i64 ak, .int .i64 an, .string as_], .agg #[.int .i64 bk, .int .i64 bn, .string bs]] w fun e w' => e = .returned (.agg #[.int .i64 (sameV ⟨ak, an, as_⟩ ⟨bk, bn, bs⟩).k, .int .i64 (sameV ⟨ak, an, as_⟩ ⟨bk, bn, bs⟩).n, .string (sameV ⟨ak, an, as_⟩ ⟨bk, bn, bs⟩).s]) ∧ Below w.heap.size w w' := by
  go_enter Try.func20, Try.ntmps20
  go_wp2_with (go_at_call 81; refine (boolOf _ _).mono ?_; rintro e w' ⟨rfl, hb⟩; obtain ⟨hc, hf⟩ := bcell hb; have hz := hb.size; (try simp at hz); (try have hz0 : w.heap.size < w'.heap.size := by omega); (try have hz1 : w.heap.size + 1 < w'.heap.size := by omega); (try have hz2 : w.heap.size + 1 + 1 < w'.heap.size := by omega))
  all_goals refine bodyPost_ret (v := .agg #[.int .i64 (sameV ⟨ak, an, as_⟩ ⟨bk, bn, bs⟩).k, .int .i64 (sameV ⟨ak, an, as_⟩ ⟨bk, bn, bs⟩).n, .string (sameV ⟨ak, an, as_⟩ ⟨bk, bn, bs⟩).s]) (by simp [results, Try.results20, go_sem, sameV, boolV, beq_dec, *]) rfl ⟨rfl, (by repeat (first | with_reducible exact Below.refl _ _ | with_reducible assumption | (with_reducible refine bl_set ?_ (by dsimp only; omega) _) | with_reducible refine bl_alloc ?_ _ | with_reducible refine bl_drewN ?_ _ | with_reducible refine bl_drew ?_ | with_reducible refine bl_step ?_ (by with_reducible assumption) | exact Below.refl _ _ | assumption | (refine bl_set ?_ (by dsimp only; omega) _) | refine bl_alloc ?_ _ | refine bl_drewN ?_ _ | refine bl_drew ?_ | refine bl_step ?_ (by assumption)))⟩
theorem same04 (ak an : Int) (as_ : ByteArray) (bk bn : Int) (bs : ByteArray) (w : World) : Calls Try.prog 21 #[.agg #[.int .i64 ak, .int .i64 an, .string as_], .agg #[.int .i64 bk, .int .i64 bn, .string bs]] w fun e w' => e = .returned (.agg #[.int .i64 (sameV ⟨ak, an, as_⟩ ⟨bk, bn, bs⟩).k, .int .i64 (sameV ⟨ak, an, as_⟩ ⟨bk, bn, bs⟩).n, .string (sameV ⟨ak, an, as_⟩ ⟨bk, bn, bs⟩).s]) ∧ Below w.heap.size w w' := by
  go_enter Try.func21, Try.ntmps21
  go_wp2_with (go_at_call 83; refine (bool04 _ _).mono ?_; rintro e w' ⟨rfl, hb⟩; obtain ⟨hc, hf⟩ := bcell hb; have hz := hb.size; (try simp at hz); (try have hz0 : w.heap.size < w'.heap.size := by omega); (try have hz1 : w.heap.size + 1 < w'.heap.size := by omega); (try have hz2 : w.heap.size + 1 + 1 < w'.heap.size := by omega))
  all_goals refine bodyPost_ret (v := .agg #[.int .i64 (sameV ⟨ak, an, as_⟩ ⟨bk, bn, bs⟩).k, .int .i64 (sameV ⟨ak, an, as_⟩ ⟨bk, bn, bs⟩).n, .string (sameV ⟨ak, an, as_⟩ ⟨bk, bn, bs⟩).s]) (by simp [results, Try.results21, go_sem, sameV, boolV, beq_dec, *]) rfl ⟨rfl, (by repeat (first | with_reducible exact Below.refl _ _ | with_reducible assumption | (with_reducible refine bl_set ?_ (by dsimp only; omega) _) | with_reducible refine bl_alloc ?_ _ | with_reducible refine bl_drewN ?_ _ | with_reducible refine bl_drew ?_ | with_reducible refine bl_step ?_ (by with_reducible assumption) | exact Below.refl _ _ | assumption | (refine bl_set ?_ (by dsimp only; omega) _) | refine bl_alloc ?_ _ | refine bl_drewN ?_ _ | refine bl_drew ?_ | refine bl_step ?_ (by assumption)))⟩
def notV (a : V) : V := if a.k = 2 then boolV (a.n != 1) else V.zero
def notT (a : V) : Int := if a.k = 2 then 0 else 1
theorem lessS (x y : ByteArray) (w : World) : Calls Try.prog 82 #[.string x, .string y] w fun e w' => e = .returned (.bool (Op.bytesLess x.toList y.toList)) ∧ w = w' := by
  go_enter Try.func82, Try.ntmps82
  go_wp2
  go_ret
  exact ⟨rfl, rfl⟩
def lessV (a b : V) : V := if a.k = 1 ∧ b.k = 1 then boolV (decide (a.n < b.n)) else if a.k = 3 ∧ b.k = 3 then boolV (Op.bytesLess a.s.toList b.s.toList) else V.zero
def lessT (a b : V) : Int := if a.k = 1 ∧ b.k = 1 then 0 else if a.k = 3 ∧ b.k = 3 then 0 else 1
theorem lessI (ak an : Int) (as_ : ByteArray) (bk bn : Int) (bs : ByteArray) (w : World) : Calls Try.prog 19 #[.agg #[.int .i64 ak, .int .i64 an, .string as_], .agg #[.int .i64 bk, .int .i64 bn, .string bs]] w fun e w' => e = .returned (.tuple #[.agg #[.int .i64 (lessV ⟨ak, an, as_⟩ ⟨bk, bn, bs⟩).k, .int .i64 (lessV ⟨ak, an, as_⟩ ⟨bk, bn, bs⟩).n, .string (lessV ⟨ak, an, as_⟩ ⟨bk, bn, bs⟩).s], .int .i64 (lessT ⟨ak, an, as_⟩ ⟨bk, bn, bs⟩)]) ∧ Below w.heap.size w w' := by
  by_cases h1 : ak = 1 ∧ bk = 1
  · obtain ⟨rfl, rfl⟩ := h1
    go_enter Try.func19, Try.ntmps19
    go_wp2_with (first | (go_at_call 75; refine (both _ _ _ _ _ _ _ _).mono ?_; rintro e w' ⟨rfl, hb⟩; obtain ⟨hc, hf⟩ := bcell hb; have hz := hb.size; (try simp at hz); (try have hz0 : w.heap.size < w'.heap.size := by omega); (try have hz1 : w.heap.size + 1 < w'.heap.size := by omega); (try have hz2 : w.heap.size + 1 + 1 < w'.heap.size := by omega)) | (go_at_call 81; refine (boolOf _ _).mono ?_; rintro e w' ⟨rfl, hb⟩; obtain ⟨hc, hf⟩ := bcell hb; have hz := hb.size; (try simp at hz); (try have hz0 : w.heap.size < w'.heap.size := by omega); (try have hz1 : w.heap.size + 1 < w'.heap.size := by omega); (try have hz2 : w.heap.size + 1 + 1 < w'.heap.size := by omega)))
    all_goals refine bodyPost_ret (v := .tuple #[.agg #[.int .i64 (lessV ⟨1, an, as_⟩ ⟨1, bn, bs⟩).k, .int .i64 (lessV ⟨1, an, as_⟩ ⟨1, bn, bs⟩).n, .string (lessV ⟨1, an, as_⟩ ⟨1, bn, bs⟩).s], .int .i64 (lessT ⟨1, an, as_⟩ ⟨1, bn, bs⟩)]) (by simp [results, Try.results19, go_sem, lessV, lessT, boolV, *]) rfl ⟨rfl, (by repeat (first | with_reducible exact Below.refl _ _ | with_reducible assumption | (with_reducible refine bl_set ?_ (by dsimp only; omega) _) | with_reducible refine bl_alloc ?_ _ | with_reducible refine bl_drewN ?_ _ | with_reducible refine bl_drew ?_ | with_reducible refine bl_step ?_ (by with_reducible assumption) | exact Below.refl _ _ | assumption | (refine bl_set ?_ (by dsimp only; omega) _) | refine bl_alloc ?_ _ | refine bl_drewN ?_ _ | refine bl_drew ?_ | refine bl_step ?_ (by assumption)))⟩
  · by_cases h2 : ak = 3 ∧ bk = 3
    · obtain ⟨rfl, rfl⟩ := h2
      clear h1
      go_enter Try.func19, Try.ntmps19
      go_wp2_with (first | (go_at_call 75; refine (both _ _ _ _ _ _ _ _).mono ?_; rintro e w' ⟨rfl, hb⟩; obtain ⟨hc, hf⟩ := bcell hb; have hz := hb.size; (try simp at hz); (try have hz0 : w.heap.size < w'.heap.size := by omega); (try have hz1 : w.heap.size + 1 < w'.heap.size := by omega); (try have hz2 : w.heap.size + 1 + 1 < w'.heap.size := by omega)) | (go_at_call 81; refine (boolOf _ _).mono ?_; rintro e w' ⟨rfl, hb⟩; obtain ⟨hc, hf⟩ := bcell hb; have hz := hb.size; (try simp at hz); (try have hz0 : w.heap.size < w'.heap.size := by omega); (try have hz1 : w.heap.size + 1 < w'.heap.size := by omega); (try have hz2 : w.heap.size + 1 + 1 < w'.heap.size := by omega)) | (go_at_call 82; refine (lessS _ _ _).mono ?_; rintro e w' ⟨rfl, rfl⟩))
      all_goals refine bodyPost_ret (v := .tuple #[.agg #[.int .i64 (lessV ⟨3, an, as_⟩ ⟨3, bn, bs⟩).k, .int .i64 (lessV ⟨3, an, as_⟩ ⟨3, bn, bs⟩).n, .string (lessV ⟨3, an, as_⟩ ⟨3, bn, bs⟩).s], .int .i64 (lessT ⟨3, an, as_⟩ ⟨3, bn, bs⟩)]) (by simp [results, Try.results19, go_sem, lessV, lessT, boolV, *]) rfl ⟨rfl, (by repeat (first | with_reducible exact Below.refl _ _ | with_reducible assumption | (with_reducible refine bl_set ?_ (by dsimp only; omega) _) | with_reducible refine bl_alloc ?_ _ | with_reducible refine bl_drewN ?_ _ | with_reducible refine bl_drew ?_ | with_reducible refine bl_step ?_ (by with_reducible assumption) | exact Below.refl _ _ | assumption | (refine bl_set ?_ (by dsimp only; omega) _) | refine bl_alloc ?_ _ | refine bl_drewN ?_ _ | refine bl_drew ?_ | refine bl_step ?_ (by assumption)))⟩
    · have e1 : (ak == 1 && bk == 1) = false := by simpa using h1
      have e2 : (ak == 3 && bk == 3) = false := by simpa using h2
      have H1 := Lib.hid h1
      have H2 := Lib.hid h2
      clear h1 h2
      go_enter Try.func19, Try.ntmps19
      go_wp2_with (first | (go_at_call 75; refine (both _ _ _ _ _ _ _ _).mono ?_; rintro e w' ⟨rfl, hb⟩; obtain ⟨hc, hf⟩ := bcell hb; have hz := hb.size; (try simp at hz); (try have hz0 : w.heap.size < w'.heap.size := by omega); (try have hz1 : w.heap.size + 1 < w'.heap.size := by omega); (try have hz2 : w.heap.size + 1 + 1 < w'.heap.size := by omega)))
      have h1 := H1.out
      have h2 := H2.out
      refine bodyPost_ret (v := .tuple #[.agg #[.int .i64 (lessV ⟨ak, an, as_⟩ ⟨bk, bn, bs⟩).k, .int .i64 (lessV ⟨ak, an, as_⟩ ⟨bk, bn, bs⟩).n, .string (lessV ⟨ak, an, as_⟩ ⟨bk, bn, bs⟩).s], .int .i64 (lessT ⟨ak, an, as_⟩ ⟨bk, bn, bs⟩)]) (by simp [results, Try.results19, go_sem, lessV, lessT, V.zero, *]) rfl ⟨rfl, (by repeat (first | with_reducible exact Below.refl _ _ | with_reducible assumption | (with_reducible refine bl_set ?_ (by dsimp only; omega) _) | with_reducible refine bl_alloc ?_ _ | with_reducible refine bl_drewN ?_ _ | with_reducible refine bl_drew ?_ | with_reducible refine bl_step ?_ (by with_reducible assumption) | exact Below.refl _ _ | assumption | (refine bl_set ?_ (by dsimp only; omega) _) | refine bl_alloc ?_ _ | refine bl_drewN ?_ _ | refine bl_drew ?_ | refine bl_step ?_ (by assumption)))⟩
theorem less04 (ak an : Int) (as_ : ByteArray) (bk bn : Int) (bs : ByteArray) (w : World) : Calls Try.prog 22 #[.agg #[.int .i64 ak, .int .i64 an, .string as_], .agg #[.int .i64 bk, .int .i64 bn, .string bs]] w fun e w' => e = .returned (.tuple #[.agg #[.int .i64 (lessV ⟨ak, an, as_⟩ ⟨bk, bn, bs⟩).k, .int .i64 (lessV ⟨ak, an, as_⟩ ⟨bk, bn, bs⟩).n, .string (lessV ⟨ak, an, as_⟩ ⟨bk, bn, bs⟩).s], .int .i64 (lessT ⟨ak, an, as_⟩ ⟨bk, bn, bs⟩)]) ∧ Below w.heap.size w w' := by
  by_cases h1 : ak = 1 ∧ bk = 1
  · obtain ⟨rfl, rfl⟩ := h1
    go_enter Try.func22, Try.ntmps22
    go_wp2_with (go_at_call 83; refine (bool04 _ _).mono ?_; rintro e w' ⟨rfl, hb⟩; obtain ⟨hc, hf⟩ := bcell hb; have hz := hb.size; (try simp at hz); (try have hz0 : w.heap.size < w'.heap.size := by omega); (try have hz1 : w.heap.size + 1 < w'.heap.size := by omega); (try have hz2 : w.heap.size + 1 + 1 < w'.heap.size := by omega))
    all_goals refine bodyPost_ret (v := .tuple #[.agg #[.int .i64 (lessV ⟨1, an, as_⟩ ⟨1, bn, bs⟩).k, .int .i64 (lessV ⟨1, an, as_⟩ ⟨1, bn, bs⟩).n, .string (lessV ⟨1, an, as_⟩ ⟨1, bn, bs⟩).s], .int .i64 (lessT ⟨1, an, as_⟩ ⟨1, bn, bs⟩)]) (by simp [results, Try.results22, go_sem, lessV, lessT, boolV, *]) rfl ⟨rfl, (by repeat (first | with_reducible exact Below.refl _ _ | with_reducible assumption | (with_reducible refine bl_set ?_ (by dsimp only; omega) _) | with_reducible refine bl_alloc ?_ _ | with_reducible refine bl_drewN ?_ _ | with_reducible refine bl_drew ?_ | with_reducible refine bl_step ?_ (by with_reducible assumption) | exact Below.refl _ _ | assumption | (refine bl_set ?_ (by dsimp only; omega) _) | refine bl_alloc ?_ _ | refine bl_drewN ?_ _ | refine bl_drew ?_ | refine bl_step ?_ (by assumption)))⟩
  · by_cases h2 : ak = 3 ∧ bk = 3
    · obtain ⟨rfl, rfl⟩ := h2
      clear h1
      go_enter Try.func22, Try.ntmps22
      go_wp2_with (go_at_call 83; refine (bool04 _ _).mono ?_; rintro e w' ⟨rfl, hb⟩; obtain ⟨hc, hf⟩ := bcell hb; have hz := hb.size; (try simp at hz); (try have hz0 : w.heap.size < w'.heap.size := by omega); (try have hz1 : w.heap.size + 1 < w'.heap.size := by omega); (try have hz2 : w.heap.size + 1 + 1 < w'.heap.size := by omega))
      all_goals refine bodyPost_ret (v := .tuple #[.agg #[.int .i64 (lessV ⟨3, an, as_⟩ ⟨3, bn, bs⟩).k, .int .i64 (lessV ⟨3, an, as_⟩ ⟨3, bn, bs⟩).n, .string (lessV ⟨3, an, as_⟩ ⟨3, bn, bs⟩).s], .int .i64 (lessT ⟨3, an, as_⟩ ⟨3, bn, bs⟩)]) (by simp [results, Try.results22, go_sem, lessV, lessT, boolV, *]) rfl ⟨rfl, (by repeat (first | with_reducible exact Below.refl _ _ | with_reducible assumption | (with_reducible refine bl_set ?_ (by dsimp only; omega) _) | with_reducible refine bl_alloc ?_ _ | with_reducible refine bl_drewN ?_ _ | with_reducible refine bl_drew ?_ | with_reducible refine bl_step ?_ (by with_reducible assumption) | exact Below.refl _ _ | assumption | (refine bl_set ?_ (by dsimp only; omega) _) | refine bl_alloc ?_ _ | refine bl_drewN ?_ _ | refine bl_drew ?_ | refine bl_step ?_ (by assumption)))⟩
    · by_cases a1 : ak = 1
      · subst a1
        have b1 : ¬ bk = 1 := fun e => h1 ⟨rfl, e⟩
        clear h1 h2
        go_enter Try.func22, Try.ntmps22
        go_wp2
        refine bodyPost_ret (v := .tuple #[.agg #[.int .i64 (lessV ⟨1, an, as_⟩ ⟨bk, bn, bs⟩).k, .int .i64 (lessV ⟨1, an, as_⟩ ⟨bk, bn, bs⟩).n, .string (lessV ⟨1, an, as_⟩ ⟨bk, bn, bs⟩).s], .int .i64 (lessT ⟨1, an, as_⟩ ⟨bk, bn, bs⟩)]) (by simp [results, Try.results22, go_sem, lessV, lessT, V.zero, *]) rfl ⟨rfl, (by repeat (first | with_reducible exact Below.refl _ _ | with_reducible assumption | (with_reducible refine bl_set ?_ (by dsimp only; omega) _) | with_reducible refine bl_alloc ?_ _ | with_reducible refine bl_drewN ?_ _ | with_reducible refine bl_drew ?_ | with_reducible refine bl_step ?_ (by with_reducible assumption) | exact Below.refl _ _ | assumption | (refine bl_set ?_ (by dsimp only; omega) _) | refine bl_alloc ?_ _ | refine bl_drewN ?_ _ | refine bl_drew ?_ | refine bl_step ?_ (by assumption)))⟩
      by_cases a3 : ak = 3
      · subst a3
        have b3 : ¬ bk = 3 := fun e => h2 ⟨rfl, e⟩
        clear h1 h2 a1
        go_enter Try.func22, Try.ntmps22
        go_wp2
        refine bodyPost_ret (v := .tuple #[.agg #[.int .i64 (lessV ⟨3, an, as_⟩ ⟨bk, bn, bs⟩).k, .int .i64 (lessV ⟨3, an, as_⟩ ⟨bk, bn, bs⟩).n, .string (lessV ⟨3, an, as_⟩ ⟨bk, bn, bs⟩).s], .int .i64 (lessT ⟨3, an, as_⟩ ⟨bk, bn, bs⟩)]) (by simp [results, Try.results22, go_sem, lessV, lessT, V.zero, *]) rfl ⟨rfl, (by repeat (first | with_reducible exact Below.refl _ _ | with_reducible assumption | (with_reducible refine bl_set ?_ (by dsimp only; omega) _) | with_reducible refine bl_alloc ?_ _ | with_reducible refine bl_drewN ?_ _ | with_reducible refine bl_drew ?_ | with_reducible refine bl_step ?_ (by with_reducible assumption) | exact Below.refl _ _ | assumption | (refine bl_set ?_ (by dsimp only; omega) _) | refine bl_alloc ?_ _ | refine bl_drewN ?_ _ | refine bl_drew ?_ | refine bl_step ?_ (by assumption)))⟩
      · clear h1 h2
        go_enter Try.func22, Try.ntmps22
        go_wp2
        refine bodyPost_ret (v := .tuple #[.agg #[.int .i64 (lessV ⟨ak, an, as_⟩ ⟨bk, bn, bs⟩).k, .int .i64 (lessV ⟨ak, an, as_⟩ ⟨bk, bn, bs⟩).n, .string (lessV ⟨ak, an, as_⟩ ⟨bk, bn, bs⟩).s], .int .i64 (lessT ⟨ak, an, as_⟩ ⟨bk, bn, bs⟩)]) (by simp [results, Try.results22, go_sem, lessV, lessT, V.zero, *]) rfl ⟨rfl, (by repeat (first | with_reducible exact Below.refl _ _ | with_reducible assumption | (with_reducible refine bl_set ?_ (by dsimp only; omega) _) | with_reducible refine bl_alloc ?_ _ | with_reducible refine bl_drewN ?_ _ | with_reducible refine bl_drew ?_ | with_reducible refine bl_step ?_ (by with_reducible assumption) | exact Below.refl _ _ | assumption | (refine bl_set ?_ (by dsimp only; omega) _) | refine bl_alloc ?_ _ | refine bl_drewN ?_ _ | refine bl_drew ?_ | refine bl_step ?_ (by assumption)))⟩
end Go.Proofs.Ytpjdecneeakkeaa.Val
