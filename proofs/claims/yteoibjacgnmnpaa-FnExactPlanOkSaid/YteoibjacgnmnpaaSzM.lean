/- The laws' first step: the measure of a module against the laws' own bound. -/
import Derived.Test.YteoibjacgnmnpaaSz
import Derived.OpenShut
namespace Go.Proofs.Yteoibjacgnmnpaa.Dat
open Go Go.RowKit Go.Proofs.Yteoibjacgnmnpaa.Mem
set_option linter.unusedVariables false
set_option linter.unusedSimpArgs false
theorem wf_lo {n : Int} (h : (Lit.int .i64 n).wf = true) : -9223372036854775808 ≤ n := (bounds_i64 h).1
theorem wf_hi {n : Int} (h : (Lit.int .i64 n).wf = true) : n ≤ 9223372036854775807 := (bounds_i64 h).2
theorem szM_ok (A B : Option Addr) (c d : Nat) (t : List ByteArray) (l : List DFunc) (w : World) (ht : Knd.str.Row w A t.length t) (hr : kFunc.Row w B l.length l) (htm : t.length ≤ maxLen) (hm : l.length ≤ maxLen) (htv : ∀ x ∈ t, x.size ≤ maxLen) (hv : ∀ x ∈ l, x.code.length ≤ maxLen) (hs : (szMod t l : Int) ≤ 1048576) :
    Calls Try.prog 29 #[.agg #[.slice A t.length c, .slice B l.length d], .int .i64 1048576] w fun e w' => e = .returned (.int .i64 (1048576 - (szMod t l : Int))) ∧ Below w.heap.size w w' := by
  have C := szModule A B c d t l 1048576 w ht hr htm hm htv hv (by omega) (by omega)
  rwa [lft_le hs] at C
theorem szM_no (A B : Option Addr) (c d : Nat) (t : List ByteArray) (l : List DFunc) (w : World) (ht : Knd.str.Row w A t.length t) (hr : kFunc.Row w B l.length l) (htm : t.length ≤ maxLen) (hm : l.length ≤ maxLen) (htv : ∀ x ∈ t, x.size ≤ maxLen) (hv : ∀ x ∈ l, x.code.length ≤ maxLen) (hs : ¬ (szMod t l : Int) ≤ 1048576) :
    Calls Try.prog 29 #[.agg #[.slice A t.length c, .slice B l.length d], .int .i64 1048576] w fun e w' => e = .returned (.int .i64 (-1)) ∧ Below w.heap.size w w' := by
  have C := szModule A B c d t l 1048576 w ht hr htm hm htv hv (by omega) (by omega)
  rwa [lft_gt (by omega)] at C
theorem mem_sum {α : Type} (f : α → Nat) (l : List α) : ∀ x ∈ l, f x ≤ (l.map f).sum := by
  induction l with
  | nil => intro x h; cases h
  | cons y l ih =>
    intro x h
    rw [List.map_cons, List.sum_cons]
    rcases List.mem_cons.1 h with rfl | h
    · omega
    · have := ih x h
      omega
theorem szMod_small {t : List ByteArray} {l : List DFunc} (hs : (szMod t l : Int) ≤ 1048576) : t.length ≤ 1048576 ∧ l.length ≤ 1048576 ∧ ∀ x ∈ l, x.code.length ≤ 1048576 := by
  unfold szMod szTexts szFuncs sumOf at hs
  refine ⟨by omega, by omega, fun x hx => ?_⟩
  have : szFunc x ≤ (l.map szFunc).sum := mem_sum szFunc l x hx
  have e : szFunc x = x.code.length := rfl
  omega
end Go.Proofs.Yteoibjacgnmnpaa.Dat
