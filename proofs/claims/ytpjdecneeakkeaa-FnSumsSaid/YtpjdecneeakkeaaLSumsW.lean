/- FnSums, at every list of bytes. -/
import Derived.Test.YtpjdecneeakkeaaLSums
namespace Go.Proofs.Ytpjdecneeakkeaa.Dat
open Go Go.RowKit Go.Proofs.Ytpjdecneeakkeaa.Mem
set_option linter.unusedVariables false
set_option linter.unusedSimpArgs false
theorem u8_wf {b : Int} (h : (Lit.int .u8 b).wf = true) : 0 ≤ b ∧ b < 256 := by
  have h1 : (decide (IntKind.u8.min ≤ b) && decide (b ≤ IntKind.u8.max)) = true := h
  have e1 : IntKind.u8.min = 0 := by kernel_rfl
  have e2 : IntKind.u8.max = 255 := by kernel_rfl
  rw [e1, e2, Bool.and_eq_true, decide_eq_true_iff, decide_eq_true_iff] at h1
  omega
set_option maxRecDepth 100000 in
theorem bigT (A : Option Addr) (c : Nat) (xs : List Int) (w : World) (h : ¬ xs.length ≤ 1048576) (h2 : xs.length ≤ maxLen) : Calls Try.prog 12 #[.slice A xs.length c] w fun e w' => e = .returned (.bool true) ∧ Below w.heap.size w w' := by
  go_enter Try.func12, Try.ntmps12
  go_wp2
  go_ret
  exact ⟨Mem.ret_bool (by simp; omega), Below.refl _ _⟩
set_option maxRecDepth 100000 in
theorem lawSums (xs : List Int) (w : World) {A : Option Addr} {c : Nat} (hr : (Knd.int .u8).Row w A xs.length xs) (_ : xs.length ≤ c) (hv : xs.length ≤ maxLen ∧ ∀ y ∈ xs, (Lit.int .u8 y).wf = true) : Calls Try.prog 3 #[.slice A xs.length c] w fun e w' => e = .returned (.bool true) ∧ Below w.heap.size w w' := by
  have hby : ∀ b ∈ xs, 0 ≤ b ∧ b < 256 := fun b hb => u8_wf (hv.2 b hb)
  by_cases hbig : xs.length ≤ 1048576
  · exact lawSums1 xs w hr hbig hbig hby
  · have hv1 := hv.1
    clear hv hby
    go_enter Try.func3, Try.ntmps3
    go_wp2_with fail
    refine (bigT A c xs _ hbig hv1).mono ?_
    rintro e w1 ⟨rfl, hb⟩
    go_wp2
    go_ret
    exact ⟨rfl, hb⟩
end Go.Proofs.Ytpjdecneeakkeaa.Dat
