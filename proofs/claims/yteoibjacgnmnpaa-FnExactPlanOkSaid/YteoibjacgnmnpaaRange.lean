/- Ranges and places. -/
import Derived.Test.YteoibjacgnmnpaaMem
import Derived.Test.YteoibjacgnmnpaaProg
import Derived.WalkLawsBesides
import Derived.WalkSpells
import Derived.Lib.Hide
namespace Go.Proofs.Yteoibjacgnmnpaa.Dat
open Go Go.RowKit Go.Proofs.Yteoibjacgnmnpaa.Mem
set_option linter.unusedVariables false
set_option linter.unusedSimpArgs false
def btw (a b c : Int) : Bool := decide (b ≤ a) && decide (a ≤ c)
theorem btw_true {a b c : Int} : btw a b c = true ↔ b ≤ a ∧ a ≤ c := by simp [btw]
theorem btw_false {a b c : Int} : btw a b c = false ↔ ¬ (b ≤ a ∧ a ≤ c) := by
  rw [← btw_true]
  cases btw a b c <;> simp
theorem inRange {a b c : Int} {r : Bool} (w : World) (h : btw a b c = r) : Calls Try.prog 127 #[.int .i64 a, .int .i64 b, .int .i64 c] w fun e w' => e = .returned (.bool r) ∧ w = w' := by
  subst h
  by_cases h1 : b ≤ a
  · go_enter Try.func127, Try.ntmps127
    go_wp2
    go_ret
    exact ⟨by simp [btw, h1], rfl⟩
  · go_enter Try.func127, Try.ntmps127
    go_wp2
    go_ret
    exact ⟨by simp [btw, h1]; omega, rfl⟩
theorem isNum {n : Int} {r : Bool} (w : World) (h : btw n (-1000000000) 1000000000 = r) : Calls Try.prog 120 #[.int .i64 n] w fun e w' => e = .returned (.bool r) ∧ w = w' := by
  go_enter Try.func120, Try.ntmps120
  go_wp2_with (go_at_call 127; refine (inRange _ h).mono ?_; rintro e w' ⟨rfl, rfl⟩)
  go_ret
  exact ⟨rfl, rfl⟩
theorem isPlace {n m : Int} {r : Bool} (w : World) (h : btw n 0 (m - 1) = r) (h1 : -1000000000000000000 ≤ m) (h2 : m ≤ 9223372036854775807) : Calls Try.prog 171 #[.int .i64 n, .int .i64 m] w fun e w' => e = .returned (.bool r) ∧ w = w' := by
  go_enter Try.func171, Try.ntmps171
  go_wp2_with (go_at_call 127; refine (inRange _ h).mono ?_; rintro e w' ⟨rfl, rfl⟩)
  go_ret
  exact ⟨rfl, rfl⟩
theorem between {a b c : Int} {r : Bool} (w : World) (h : btw a b c = r) : Calls Try.prog 124 #[.int .i64 a, .int .i64 b, .int .i64 c] w fun e w' => e = .returned (.bool r) ∧ w = w' := by
  subst h
  by_cases h1 : b ≤ a
  · go_enter Try.func124, Try.ntmps124
    go_wp2
    go_ret
    exact ⟨by simp [btw, h1], rfl⟩
  · go_enter Try.func124, Try.ntmps124
    go_wp2
    go_ret
    exact ⟨by simp [btw, h1]; omega, rfl⟩
end Go.Proofs.Yteoibjacgnmnpaa.Dat
