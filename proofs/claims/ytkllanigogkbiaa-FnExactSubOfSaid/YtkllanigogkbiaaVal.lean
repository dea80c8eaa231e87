/- Values: what the small functions of chapter 4 answer, in the program and in the reference. -/
import Derived.Test.YtkllanigogkbiaaMem
import Derived.Test.YtkllanigogkbiaaProg
import Derived.WalkLawsBesides
import Derived.WalkSpells
import Derived.Lib.Hide
namespace Go.Proofs.Ytkllanigogkbiaa.Val
open Go Go.RowKit Go.Proofs.Ytkllanigogkbiaa.Mem
set_option linter.unusedVariables false
set_option linter.unusedSimpArgs false

def btw (a b c : Int) : Bool := decide (b ≤ a) && decide (a ≤ c)
theorem btw_true {a b c : Int} : btw a b c = true ↔ b ≤ a ∧ a ≤ c := by simp [btw]
theorem btw_false {a b c : Int} : btw a b c = false ↔ ¬ (b ≤ a ∧ a ≤ c) := by
  rw [← btw_true]
  cases btw a b c <;> simp
def isNumB (n : Int) : Bool := btw n (-1000000000) 1000000000

theorem inRange (a b c : Int) (w : World) : Calls Try.prog 70 #[.int .i64 a, .int .i64 b, .int .i64 c] w fun e w' => e = .returned (.bool (btw a b c)) ∧ w = w' := by
  by_cases h1 : b ≤ a
  · go_enter Try.func70, Try.ntmps70
    go_wp2
    go_ret
    exact ⟨by simp [btw, h1], rfl⟩
  · go_enter Try.func70, Try.ntmps70
    go_wp2
    go_ret
    exact ⟨by simp [btw, h1]; omega, rfl⟩
theorem isNum (n : Int) (w : World) : Calls Try.prog 83 #[.int .i64 n] w fun e w' => e = .returned (.bool (isNumB n)) ∧ w = w' := by
  go_enter Try.func83, Try.ntmps83
  go_wp2_with (go_at_call 70; refine (inRange _ _ _ _).mono ?_; rintro e w' ⟨rfl, rfl⟩)
  go_ret
  exact ⟨rfl, rfl⟩
theorem between (a b c : Int) (w : World) : Calls Try.prog 68 #[.int .i64 a, .int .i64 b, .int .i64 c] w fun e w' => e = .returned (.bool (btw a b c)) ∧ w = w' := by
  by_cases h1 : b ≤ a
  · go_enter Try.func68, Try.ntmps68
    go_wp2
    go_ret
    exact ⟨by simp [btw, h1], rfl⟩
  · go_enter Try.func68, Try.ntmps68
    go_wp2
    go_ret
    exact ⟨by simp [btw, h1]; omega, rfl⟩
theorem num04 (n : Int) (w : World) : Calls Try.prog 91 #[.int .i64 n] w fun e w' => e = .returned (.bool (isNumB n)) ∧ w = w' := by
  go_enter Try.func91, Try.ntmps91
  go_wp2_with (go_at_call 68; refine (between _ _ _ _).mono ?_; rintro e w' ⟨rfl, rfl⟩)
  go_ret
  exact ⟨rfl, rfl⟩

structure V where
  k : Int
  n : Int
  s : ByteArray
def V.zero : V := ⟨0, 0, ⟨#[]⟩⟩
def b01 (b : Bool) : Int := if b then 1 else 0
def boolV (b : Bool) : V := ⟨2, b01 b, ⟨#[]⟩⟩
def intV (n : Int) : V := ⟨1, n, ⟨#[]⟩⟩

theorem boolOf (b : Bool) (w : World) : Calls Try.prog 56 #[.bool b] w fun e w' => e = .returned (.agg #[.int .i64 2, .int .i64 (b01 b), .string ⟨#[]⟩]) ∧ Below w.heap.size w w' := by
  cases b
  · go_enter Try.func56, Try.ntmps56
    go_wp2
    refine bodyPost_ret (v := .agg #[.int .i64 2, .int .i64 0, .string ⟨#[]⟩]) (by simp [results, Try.results56, go_sem, *]) rfl ⟨rfl, (by repeat (first | exact Below.refl _ _ | (refine bl_set ?_ (by dsimp only; omega) _) | refine bl_alloc ?_ _ | refine bl_drewN ?_ _ | refine bl_drew ?_ | refine bl_step ?_ (by assumption)))⟩
  · go_enter Try.func56, Try.ntmps56
    go_wp2
    refine bodyPost_ret (v := .agg #[.int .i64 2, .int .i64 1, .string ⟨#[]⟩]) (by simp [results, Try.results56, go_sem, *]) rfl ⟨rfl, (by repeat (first | exact Below.refl _ _ | (refine bl_set ?_ (by dsimp only; omega) _) | refine bl_alloc ?_ _ | refine bl_drewN ?_ _ | refine bl_drew ?_ | refine bl_step ?_ (by assumption)))⟩
theorem bool04 (b : Bool) (w : World) : Calls Try.prog 55 #[.bool b] w fun e w' => e = .returned (.agg #[.int .i64 2, .int .i64 (b01 b), .string ⟨#[]⟩]) ∧ Below w.heap.size w w' := by
  cases b
  · go_enter Try.func55, Try.ntmps55
    go_wp2
    refine bodyPost_ret (v := .agg #[.int .i64 2, .int .i64 0, .string ⟨#[]⟩]) (by simp [results, Try.results55, go_sem, *]) rfl ⟨rfl, (by repeat (first | exact Below.refl _ _ | (refine bl_set ?_ (by dsimp only; omega) _) | refine bl_alloc ?_ _ | refine bl_drewN ?_ _ | refine bl_drew ?_ | refine bl_step ?_ (by assumption)))⟩
  · go_enter Try.func55, Try.ntmps55
    go_wp2
    refine bodyPost_ret (v := .agg #[.int .i64 2, .int .i64 1, .string ⟨#[]⟩]) (by simp [results, Try.results55, go_sem, *]) rfl ⟨rfl, (by repeat (first | exact Below.refl _ _ | (refine bl_set ?_ (by dsimp only; omega) _) | refine bl_alloc ?_ _ | refine bl_drewN ?_ _ | refine bl_drew ?_ | refine bl_step ?_ (by assumption)))⟩
theorem intOf (n : Int) (w : World) : Calls Try.prog 84 #[.int .i64 n] w fun e w' => e = .returned (.agg #[.int .i64 1, .int .i64 n, .string ⟨#[]⟩]) ∧ Below w.heap.size w w' := by
  go_enter Try.func84, Try.ntmps84
  go_wp2
  refine bodyPost_ret (v := .agg #[.int .i64 1, .int .i64 n, .string ⟨#[]⟩]) (by simp [results, Try.results84, go_sem, *]) rfl ⟨rfl, (by repeat (first | exact Below.refl _ _ | (refine bl_set ?_ (by dsimp only; omega) _) | refine bl_alloc ?_ _ | refine bl_drewN ?_ _ | refine bl_drew ?_ | refine bl_step ?_ (by assumption)))⟩
theorem int04 (n : Int) (w : World) : Calls Try.prog 82 #[.int .i64 n] w fun e w' => e = .returned (.agg #[.int .i64 1, .int .i64 n, .string ⟨#[]⟩]) ∧ Below w.heap.size w w' := by
  go_enter Try.func82, Try.ntmps82
  go_wp2
  refine bodyPost_ret (v := .agg #[.int .i64 1, .int .i64 n, .string ⟨#[]⟩]) (by simp [results, Try.results82, go_sem, *]) rfl ⟨rfl, (by repeat (first | exact Below.refl _ _ | (refine bl_set ?_ (by dsimp only; omega) _) | refine bl_alloc ?_ _ | refine bl_drewN ?_ _ | refine bl_drew ?_ | refine bl_step ?_ (by assumption)))⟩
theorem both (ak an : Int) (as_ : ByteArray) (bk bn : Int) (bs : ByteArray) (k : Int) (w : World) : Calls Try.prog 58 #[.agg #[.int .i64 ak, .int .i64 an, .string as_], .agg #[.int .i64 bk, .int .i64 bn, .string bs], .int .i64 k] w fun e w' => e = .returned (.bool (ak == k && bk == k)) ∧ Below w.heap.size w w' := by
  by_cases h1 : ak = k
  · go_enter Try.func58, Try.ntmps58
    go_wp2
    go_ret
    exact ⟨by simp [h1], (by repeat (first | exact Below.refl _ _ | (refine bl_set ?_ (by dsimp only; omega) _) | refine bl_alloc ?_ _ | refine bl_drewN ?_ _ | refine bl_drew ?_ | refine bl_step ?_ (by assumption)))⟩
  · have h1' : (ak == k) = false := by simpa using h1
    go_enter Try.func58, Try.ntmps58
    go_wp2
    go_ret
    exact ⟨by simp [h1'], (by repeat (first | exact Below.refl _ _ | (refine bl_set ?_ (by dsimp only; omega) _) | refine bl_alloc ?_ _ | refine bl_drewN ?_ _ | refine bl_drew ?_ | refine bl_step ?_ (by assumption)))⟩

/-! ### SameOf, NotOf, LessOf -/
theorem beq_dec (x y : List UInt8) : (x == y) = decide (x = y) := by by_cases h : x = y <;> simp [h]
def sameV (a b : V) : V := boolV (decide (a.k = b.k ∧ a.n = b.n ∧ a.s.toList = b.s.toList))
theorem sameI (ak an : Int) (as_ : ByteArray) (bk bn : Int) (bs : ByteArray) (w : World) : Calls Try.prog 18 #[.agg #[.int .i64 ak, .int .i64 an, .string as_], .agg #[.int .i64 bk, .int .i64 bn, .string bs]] w fun e w' => e = .returned (.agg #[.int .i64 (sameV ⟨ak, an, as_⟩ ⟨bk, bn, bs⟩).k, .int .i64 (sameV ⟨ak, an, as_⟩ ⟨bk, bn, bs⟩).n, .string (sameV ⟨ak, an, as_⟩ ⟨bk, bn, bs⟩).s]) ∧ Below w.heap.size w w' := by
  go_enter Try.func18, Try.ntmps18
  go_wp2_with (go_at_call 56; refine (boolOf _ _).mono ?_; rintro e w' ⟨rfl, hb⟩; obtain ⟨hc, hf⟩ := bcell hb; have hz := hb.size; (try simp at hz); (try have hz0 : w.heap.size < w'.heap.size := by omega); (try have hz1 : w.heap.size + 1 < w'.heap.size := by omega); (try have hz2 : w.heap.size + 1 + 1 < w'.heap.size := by omega))
  all_goals refine bodyPost_ret (v := .agg #[.int .i64 (sameV ⟨ak, an, as_⟩ ⟨bk, bn, bs⟩).k, .int .i64 (sameV ⟨ak, an, as_⟩ ⟨bk, bn, bs⟩).n, .string (sameV ⟨ak, an, as_⟩ ⟨bk, bn, bs⟩).s]) (by simp [results, Try.results18, go_sem, sameV, boolV, beq_dec, *]) rfl ⟨rfl, (by repeat (first | exact Below.refl _ _ | (refine bl_set ?_ (by dsimp only; omega) _) | refine bl_alloc ?_ _ | refine bl_drewN ?_ _ | refine bl_drew ?_ | refine bl_step ?_ (by assumption)))⟩
theorem same04 (ak an : Int) (as_ : ByteArray) (bk bn : Int) (bs : ByteArray) (w : World) : Calls Try.prog 16 #[.agg #[.int .i64 ak, .int .i64 an, .string as_], .agg #[.int .i64 bk, .int .i64 bn, .string bs]] w fun e w' => e = .returned (.agg #[.int .i64 (sameV ⟨ak, an, as_⟩ ⟨bk, bn, bs⟩).k, .int .i64 (sameV ⟨ak, an, as_⟩ ⟨bk, bn, bs⟩).n, .string (sameV ⟨ak, an, as_⟩ ⟨bk, bn, bs⟩).s]) ∧ Below w.heap.size w w' := by
  go_enter Try.func16, Try.ntmps16
  go_wp2_with (go_at_call 55; refine (bool04 _ _).mono ?_; rintro e w' ⟨rfl, hb⟩; obtain ⟨hc, hf⟩ := bcell hb; have hz := hb.size; (try simp at hz); (try have hz0 : w.heap.size < w'.heap.size := by omega); (try have hz1 : w.heap.size + 1 < w'.heap.size := by omega); (try have hz2 : w.heap.size + 1 + 1 < w'.heap.size := by omega))
  all_goals refine bodyPost_ret (v := .agg #[.int .i64 (sameV ⟨ak, an, as_⟩ ⟨bk, bn, bs⟩).k, .int .i64 (sameV ⟨ak, an, as_⟩ ⟨bk, bn, bs⟩).n, .string (sameV ⟨ak, an, as_⟩ ⟨bk, bn, bs⟩).s]) (by simp [results, Try.results16, go_sem, sameV, boolV, beq_dec, *]) rfl ⟨rfl, (by repeat (first | exact Below.refl _ _ | (refine bl_set ?_ (by dsimp only; omega) _) | refine bl_alloc ?_ _ | refine bl_drewN ?_ _ | refine bl_drew ?_ | refine bl_step ?_ (by assumption)))⟩
def notV (a : V) : V := if a.k = 2 then boolV (a.n != 1) else V.zero
def notT (a : V) : Int := if a.k = 2 then 0 else 1
theorem notI (ak an : Int) (as_ : ByteArray) (w : World) : Calls Try.prog 21 #[.agg #[.int .i64 ak, .int .i64 an, .string as_]] w fun e w' => e = .returned (.tuple #[.agg #[.int .i64 (notV ⟨ak, an, as_⟩).k, .int .i64 (notV ⟨ak, an, as_⟩).n, .string (notV ⟨ak, an, as_⟩).s], .int .i64 (notT ⟨ak, an, as_⟩)]) ∧ Below w.heap.size w w' := by
  by_cases h : ak = 2
  · subst h
    go_enter Try.func21, Try.ntmps21
    go_wp2_with (go_at_call 56; refine (boolOf _ _).mono ?_; rintro e w' ⟨rfl, hb⟩; obtain ⟨hc, hf⟩ := bcell hb; have hz := hb.size; (try simp at hz); (try have hz0 : w.heap.size < w'.heap.size := by omega); (try have hz1 : w.heap.size + 1 < w'.heap.size := by omega); (try have hz2 : w.heap.size + 1 + 1 < w'.heap.size := by omega))
    all_goals refine bodyPost_ret (v := .tuple #[.agg #[.int .i64 (notV ⟨2, an, as_⟩).k, .int .i64 (notV ⟨2, an, as_⟩).n, .string (notV ⟨2, an, as_⟩).s], .int .i64 (notT ⟨2, an, as_⟩)]) (by simp [results, Try.results21, go_sem, notV, notT, boolV, *]) rfl ⟨rfl, (by repeat (first | exact Below.refl _ _ | (refine bl_set ?_ (by dsimp only; omega) _) | refine bl_alloc ?_ _ | refine bl_drewN ?_ _ | refine bl_drew ?_ | refine bl_step ?_ (by assumption)))⟩
  · have h' : (ak != 2) = true := by simpa using h
    go_enter Try.func21, Try.ntmps21
    go_wp2
    refine bodyPost_ret (v := .tuple #[.agg #[.int .i64 (notV ⟨ak, an, as_⟩).k, .int .i64 (notV ⟨ak, an, as_⟩).n, .string (notV ⟨ak, an, as_⟩).s], .int .i64 (notT ⟨ak, an, as_⟩)]) (by simp [results, Try.results21, go_sem, notV, notT, V.zero, *]) rfl ⟨rfl, (by repeat (first | exact Below.refl _ _ | (refine bl_set ?_ (by dsimp only; omega) _) | refine bl_alloc ?_ _ | refine bl_drewN ?_ _ | refine bl_drew ?_ | refine bl_step ?_ (by assumption)))⟩
theorem not04 (ak an : Int) (as_ : ByteArray) (w : World) : Calls Try.prog 20 #[.agg #[.int .i64 ak, .int .i64 an, .string as_]] w fun e w' => e = .returned (.tuple #[.agg #[.int .i64 (notV ⟨ak, an, as_⟩).k, .int .i64 (notV ⟨ak, an, as_⟩).n, .string (notV ⟨ak, an, as_⟩).s], .int .i64 (notT ⟨ak, an, as_⟩)]) ∧ Below w.heap.size w w' := by
  by_cases h : ak = 2
  · subst h
    go_enter Try.func20, Try.ntmps20
    go_wp2_with (go_at_call 55; refine (bool04 _ _).mono ?_; rintro e w' ⟨rfl, hb⟩; obtain ⟨hc, hf⟩ := bcell hb; have hz := hb.size; (try simp at hz); (try have hz0 : w.heap.size < w'.heap.size := by omega); (try have hz1 : w.heap.size + 1 < w'.heap.size := by omega); (try have hz2 : w.heap.size + 1 + 1 < w'.heap.size := by omega))
    all_goals refine bodyPost_ret (v := .tuple #[.agg #[.int .i64 (notV ⟨2, an, as_⟩).k, .int .i64 (notV ⟨2, an, as_⟩).n, .string (notV ⟨2, an, as_⟩).s], .int .i64 (notT ⟨2, an, as_⟩)]) (by simp [results, Try.results20, go_sem, notV, notT, boolV, *]) rfl ⟨rfl, (by repeat (first | exact Below.refl _ _ | (refine bl_set ?_ (by dsimp only; omega) _) | refine bl_alloc ?_ _ | refine bl_drewN ?_ _ | refine bl_drew ?_ | refine bl_step ?_ (by assumption)))⟩
  · have h' : (ak != 2) = true := by simpa using h
    go_enter Try.func20, Try.ntmps20
    go_wp2
    refine bodyPost_ret (v := .tuple #[.agg #[.int .i64 (notV ⟨ak, an, as_⟩).k, .int .i64 (notV ⟨ak, an, as_⟩).n, .string (notV ⟨ak, an, as_⟩).s], .int .i64 (notT ⟨ak, an, as_⟩)]) (by simp [results, Try.results20, go_sem, notV, notT, V.zero, *]) rfl ⟨rfl, (by repeat (first | exact Below.refl _ _ | (refine bl_set ?_ (by dsimp only; omega) _) | refine bl_alloc ?_ _ | refine bl_drewN ?_ _ | refine bl_drew ?_ | refine bl_step ?_ (by assumption)))⟩
theorem lessS (x y : ByteArray) (w : World) : Calls Try.prog 59 #[.string x, .string y] w fun e w' => e = .returned (.bool (Op.bytesLess x.toList y.toList)) ∧ w = w' := by
  go_enter Try.func59, Try.ntmps59
  go_wp2
  go_ret
  exact ⟨rfl, rfl⟩
def lessV (a b : V) : V := if a.k = 1 ∧ b.k = 1 then boolV (decide (a.n < b.n)) else if a.k = 3 ∧ b.k = 3 then boolV (Op.bytesLess a.s.toList b.s.toList) else V.zero
def lessT (a b : V) : Int := if a.k = 1 ∧ b.k = 1 then 0 else if a.k = 3 ∧ b.k = 3 then 0 else 1
theorem lessI (ak an : Int) (as_ : ByteArray) (bk bn : Int) (bs : ByteArray) (w : World) : Calls Try.prog 29 #[.agg #[.int .i64 ak, .int .i64 an, .string as_], .agg #[.int .i64 bk, .int .i64 bn, .string bs]] w fun e w' => e = .returned (.tuple #[.agg #[.int .i64 (lessV ⟨ak, an, as_⟩ ⟨bk, bn, bs⟩).k, .int .i64 (lessV ⟨ak, an, as_⟩ ⟨bk, bn, bs⟩).n, .string (lessV ⟨ak, an, as_⟩ ⟨bk, bn, bs⟩).s], .int .i64 (lessT ⟨ak, an, as_⟩ ⟨bk, bn, bs⟩)]) ∧ Below w.heap.size w w' := by
  by_cases h1 : ak = 1 ∧ bk = 1
  · obtain ⟨rfl, rfl⟩ := h1
    go_enter Try.func29, Try.ntmps29
    go_wp2_with (first | (go_at_call 58; refine (both _ _ _ _ _ _ _ _).mono ?_; rintro e w' ⟨rfl, hb⟩; obtain ⟨hc, hf⟩ := bcell hb; have hz := hb.size; (try simp at hz); (try have hz0 : w.heap.size < w'.heap.size := by omega); (try have hz1 : w.heap.size + 1 < w'.heap.size := by omega); (try have hz2 : w.heap.size + 1 + 1 < w'.heap.size := by omega)) | (go_at_call 56; refine (boolOf _ _).mono ?_; rintro e w' ⟨rfl, hb⟩; obtain ⟨hc, hf⟩ := bcell hb; have hz := hb.size; (try simp at hz); (try have hz0 : w.heap.size < w'.heap.size := by omega); (try have hz1 : w.heap.size + 1 < w'.heap.size := by omega); (try have hz2 : w.heap.size + 1 + 1 < w'.heap.size := by omega)))
    all_goals refine bodyPost_ret (v := .tuple #[.agg #[.int .i64 (lessV ⟨1, an, as_⟩ ⟨1, bn, bs⟩).k, .int .i64 (lessV ⟨1, an, as_⟩ ⟨1, bn, bs⟩).n, .string (lessV ⟨1, an, as_⟩ ⟨1, bn, bs⟩).s], .int .i64 (lessT ⟨1, an, as_⟩ ⟨1, bn, bs⟩)]) (by simp [results, Try.results29, go_sem, lessV, lessT, boolV, *]) rfl ⟨rfl, (by repeat (first | exact Below.refl _ _ | (refine bl_set ?_ (by dsimp only; omega) _) | refine bl_alloc ?_ _ | refine bl_drewN ?_ _ | refine bl_drew ?_ | refine bl_step ?_ (by assumption)))⟩
  · by_cases h2 : ak = 3 ∧ bk = 3
    · obtain ⟨rfl, rfl⟩ := h2
      clear h1
      go_enter Try.func29, Try.ntmps29
      go_wp2_with (first | (go_at_call 58; refine (both _ _ _ _ _ _ _ _).mono ?_; rintro e w' ⟨rfl, hb⟩; obtain ⟨hc, hf⟩ := bcell hb; have hz := hb.size; (try simp at hz); (try have hz0 : w.heap.size < w'.heap.size := by omega); (try have hz1 : w.heap.size + 1 < w'.heap.size := by omega); (try have hz2 : w.heap.size + 1 + 1 < w'.heap.size := by omega)) | (go_at_call 56; refine (boolOf _ _).mono ?_; rintro e w' ⟨rfl, hb⟩; obtain ⟨hc, hf⟩ := bcell hb; have hz := hb.size; (try simp at hz); (try have hz0 : w.heap.size < w'.heap.size := by omega); (try have hz1 : w.heap.size + 1 < w'.heap.size := by omega); (try have hz2 : w.heap.size + 1 + 1 < w'.heap.size := by omega)) | (go_at_call 59; refine (lessS _ _ _).mono ?_; rintro e w' ⟨rfl, rfl⟩))
      all_goals refine bodyPost_ret (v := .tuple #[.agg #[.int .i64 (lessV ⟨3, an, as_⟩ ⟨3, bn, bs⟩).k, .int .i64 (lessV ⟨3, an, as_⟩ ⟨3, bn, bs⟩).n, .string (lessV ⟨3, an, as_⟩ ⟨3, bn, bs⟩).s], .int .i64 (lessT ⟨3, an, as_⟩ ⟨3, bn, bs⟩)]) (by simp [results, Try.results29, go_sem, lessV, lessT, boolV, *]) rfl ⟨rfl, (by repeat (first | exact Below.refl _ _ | (refine bl_set ?_ (by dsimp only; omega) _) | refine bl_alloc ?_ _ | refine bl_drewN ?_ _ | refine bl_drew ?_ | refine bl_step ?_ (by assumption)))⟩
    · have e1 : (ak == 1 && bk == 1) = false := by simpa using h1
      have e2 : (ak == 3 && bk == 3) = false := by simpa using h2
      have H1 := Lib.hid h1
      have H2 := Lib.hid h2
      clear h1 h2
      go_enter Try.func29, Try.ntmps29
      go_wp2_with (first | (go_at_call 58; refine (both _ _ _ _ _ _ _ _).mono ?_; rintro e w' ⟨rfl, hb⟩; obtain ⟨hc, hf⟩ := bcell hb; have hz := hb.size; (try simp at hz); (try have hz0 : w.heap.size < w'.heap.size := by omega); (try have hz1 : w.heap.size + 1 < w'.heap.size := by omega); (try have hz2 : w.heap.size + 1 + 1 < w'.heap.size := by omega)))
      have h1 := H1.out
      have h2 := H2.out
      refine bodyPost_ret (v := .tuple #[.agg #[.int .i64 (lessV ⟨ak, an, as_⟩ ⟨bk, bn, bs⟩).k, .int .i64 (lessV ⟨ak, an, as_⟩ ⟨bk, bn, bs⟩).n, .string (lessV ⟨ak, an, as_⟩ ⟨bk, bn, bs⟩).s], .int .i64 (lessT ⟨ak, an, as_⟩ ⟨bk, bn, bs⟩)]) (by simp [results, Try.results29, go_sem, lessV, lessT, V.zero, *]) rfl ⟨rfl, (by repeat (first | exact Below.refl _ _ | (refine bl_set ?_ (by dsimp only; omega) _) | refine bl_alloc ?_ _ | refine bl_drewN ?_ _ | refine bl_drew ?_ | refine bl_step ?_ (by assumption)))⟩
theorem less04 (ak an : Int) (as_ : ByteArray) (bk bn : Int) (bs : ByteArray) (w : World) : Calls Try.prog 28 #[.agg #[.int .i64 ak, .int .i64 an, .string as_], .agg #[.int .i64 bk, .int .i64 bn, .string bs]] w fun e w' => e = .returned (.tuple #[.agg #[.int .i64 (lessV ⟨ak, an, as_⟩ ⟨bk, bn, bs⟩).k, .int .i64 (lessV ⟨ak, an, as_⟩ ⟨bk, bn, bs⟩).n, .string (lessV ⟨ak, an, as_⟩ ⟨bk, bn, bs⟩).s], .int .i64 (lessT ⟨ak, an, as_⟩ ⟨bk, bn, bs⟩)]) ∧ Below w.heap.size w w' := by
  by_cases h1 : ak = 1 ∧ bk = 1
  · obtain ⟨rfl, rfl⟩ := h1
    go_enter Try.func28, Try.ntmps28
    go_wp2_with (go_at_call 55; refine (bool04 _ _).mono ?_; rintro e w' ⟨rfl, hb⟩; obtain ⟨hc, hf⟩ := bcell hb; have hz := hb.size; (try simp at hz); (try have hz0 : w.heap.size < w'.heap.size := by omega); (try have hz1 : w.heap.size + 1 < w'.heap.size := by omega); (try have hz2 : w.heap.size + 1 + 1 < w'.heap.size := by omega))
    all_goals refine bodyPost_ret (v := .tuple #[.agg #[.int .i64 (lessV ⟨1, an, as_⟩ ⟨1, bn, bs⟩).k, .int .i64 (lessV ⟨1, an, as_⟩ ⟨1, bn, bs⟩).n, .string (lessV ⟨1, an, as_⟩ ⟨1, bn, bs⟩).s], .int .i64 (lessT ⟨1, an, as_⟩ ⟨1, bn, bs⟩)]) (by simp [results, Try.results28, go_sem, lessV, lessT, boolV, *]) rfl ⟨rfl, (by repeat (first | exact Below.refl _ _ | (refine bl_set ?_ (by dsimp only; omega) _) | refine bl_alloc ?_ _ | refine bl_drewN ?_ _ | refine bl_drew ?_ | refine bl_step ?_ (by assumption)))⟩
  · by_cases h2 : ak = 3 ∧ bk = 3
    · obtain ⟨rfl, rfl⟩ := h2
      clear h1
      go_enter Try.func28, Try.ntmps28
      go_wp2_with (go_at_call 55; refine (bool04 _ _).mono ?_; rintro e w' ⟨rfl, hb⟩; obtain ⟨hc, hf⟩ := bcell hb; have hz := hb.size; (try simp at hz); (try have hz0 : w.heap.size < w'.heap.size := by omega); (try have hz1 : w.heap.size + 1 < w'.heap.size := by omega); (try have hz2 : w.heap.size + 1 + 1 < w'.heap.size := by omega))
      all_goals refine bodyPost_ret (v := .tuple #[.agg #[.int .i64 (lessV ⟨3, an, as_⟩ ⟨3, bn, bs⟩).k, .int .i64 (lessV ⟨3, an, as_⟩ ⟨3, bn, bs⟩).n, .string (lessV ⟨3, an, as_⟩ ⟨3, bn, bs⟩).s], .int .i64 (lessT ⟨3, an, as_⟩ ⟨3, bn, bs⟩)]) (by simp [results, Try.results28, go_sem, lessV, lessT, boolV, *]) rfl ⟨rfl, (by repeat (first | exact Below.refl _ _ | (refine bl_set ?_ (by dsimp only; omega) _) | refine bl_alloc ?_ _ | refine bl_drewN ?_ _ | refine bl_drew ?_ | refine bl_step ?_ (by assumption)))⟩
    · by_cases a1 : ak = 1
      · subst a1
        have b1 : ¬ bk = 1 := fun e => h1 ⟨rfl, e⟩
        clear h1 h2
        go_enter Try.func28, Try.ntmps28
        go_wp2
        refine bodyPost_ret (v := .tuple #[.agg #[.int .i64 (lessV ⟨1, an, as_⟩ ⟨bk, bn, bs⟩).k, .int .i64 (lessV ⟨1, an, as_⟩ ⟨bk, bn, bs⟩).n, .string (lessV ⟨1, an, as_⟩ ⟨bk, bn, bs⟩).s], .int .i64 (lessT ⟨1, an, as_⟩ ⟨bk, bn, bs⟩)]) (by simp [results, Try.results28, go_sem, lessV, lessT, V.zero, *]) rfl ⟨rfl, (by repeat (first | exact Below.refl _ _ | (refine bl_set ?_ (by dsimp only; omega) _) | refine bl_alloc ?_ _ | refine bl_drewN ?_ _ | refine bl_drew ?_ | refine bl_step ?_ (by assumption)))⟩
      by_cases a3 : ak = 3
      · subst a3
        have b3 : ¬ bk = 3 := fun e => h2 ⟨rfl, e⟩
        clear h1 h2 a1
        go_enter Try.func28, Try.ntmps28
        go_wp2
        refine bodyPost_ret (v := .tuple #[.agg #[.int .i64 (lessV ⟨3, an, as_⟩ ⟨bk, bn, bs⟩).k, .int .i64 (lessV ⟨3, an, as_⟩ ⟨bk, bn, bs⟩).n, .string (lessV ⟨3, an, as_⟩ ⟨bk, bn, bs⟩).s], .int .i64 (lessT ⟨3, an, as_⟩ ⟨bk, bn, bs⟩)]) (by simp [results, Try.results28, go_sem, lessV, lessT, V.zero, *]) rfl ⟨rfl, (by repeat (first | exact Below.refl _ _ | (refine bl_set ?_ (by dsimp only; omega) _) | refine bl_alloc ?_ _ | refine bl_drewN ?_ _ | refine bl_drew ?_ | refine bl_step ?_ (by assumption)))⟩
      · clear h1 h2
        go_enter Try.func28, Try.ntmps28
        go_wp2
        refine bodyPost_ret (v := .tuple #[.agg #[.int .i64 (lessV ⟨ak, an, as_⟩ ⟨bk, bn, bs⟩).k, .int .i64 (lessV ⟨ak, an, as_⟩ ⟨bk, bn, bs⟩).n, .string (lessV ⟨ak, an, as_⟩ ⟨bk, bn, bs⟩).s], .int .i64 (lessT ⟨ak, an, as_⟩ ⟨bk, bn, bs⟩)]) (by simp [results, Try.results28, go_sem, lessV, lessT, V.zero, *]) rfl ⟨rfl, (by repeat (first | exact Below.refl _ _ | (refine bl_set ?_ (by dsimp only; omega) _) | refine bl_alloc ?_ _ | refine bl_drewN ?_ _ | refine bl_drew ?_ | refine bl_step ?_ (by assumption)))⟩
end Go.Proofs.Ytkllanigogkbiaa.Val
