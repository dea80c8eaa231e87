/- The laws' comparison of troubles; Verify's contracts with the answer written out. -/
import Derived.Test.YtgnibbhcbdmigaaVer3
namespace Go.Proofs.Ytgnibbhcbdmigaa.Dat
open Go Go.RowKit Go.Proofs.Ytgnibbhcbdmigaa.Mem
set_option linter.unusedVariables false
set_option linter.unusedSimpArgs false
theorem eqTrouble (a b c : Int) (w : World) : Calls Try.prog 30 #[.agg #[.int .i64 a, .int .i64 b, .int .i64 c], .agg #[.int .i64 a, .int .i64 b, .int .i64 c]] w fun e w' => e = .returned (.bool true) ∧ Below w.heap.size w w' := by
  go_enter Try.func30, Try.ntmps30
  go_wp2
  go_ret
  exact ⟨rfl, (by repeat (first | exact Below.refl _ _ | assumption | (refine bl_set ?_ (by dsimp only; omega) _) | refine bl_alloc ?_ _ | refine bl_drewN ?_ _ | refine bl_drew ?_ | refine bl_step ?_ (by assumption)))⟩
theorem verIx (A B : Option Addr) (c d : Nat) (t : List ByteArray) (l : List DFunc) (w : World) (ht : Knd.str.Row w A t.length t) (hr : kFunc.Row w B l.length l) (htm : t.length ≤ 1048576) (hm : l.length ≤ 1048576) (htv : ∀ x ∈ t, x.size ≤ maxLen) (hv : ∀ x ∈ l, x.code.length ≤ 1048576 ∧ -9223372036854775808 ≤ x.locals ∧ x.locals ≤ 9223372036854775807) :
    Calls Try.prog 29 #[.agg #[.slice A t.length c, .slice B l.length d]] w fun e w' => e = .returned (.agg #[.int .i64 (verL t l).1, .int .i64 (verL t l).2.1, .int .i64 (verL t l).2.2]) ∧ Below w.heap.size w w' := verI A B c d t l w ht hr htm hm htv hv
theorem ver03x (A B : Option Addr) (c d : Nat) (t : List ByteArray) (l : List DFunc) (w : World) (ht : Knd.str.Row w A t.length t) (hr : kFunc.Row w B l.length l) (htm : t.length ≤ 1048576) (hm : l.length ≤ 1048576) (htv : ∀ x ∈ t, x.size ≤ maxLen) (hv : ∀ x ∈ l, x.code.length ≤ 1048576 ∧ -9223372036854775808 ≤ x.locals ∧ x.locals ≤ 9223372036854775807) :
    Calls Try.prog 28 #[.agg #[.slice A t.length c, .slice B l.length d]] w fun e w' => e = .returned (.agg #[.int .i64 (verL t l).1, .int .i64 (verL t l).2.1, .int .i64 (verL t l).2.2]) ∧ Below w.heap.size w w' := ver03 A B c d t l w ht hr htm hm htv hv
end Go.Proofs.Ytgnibbhcbdmigaa.Dat
