/- The laws' comparison of troubles; Verify's contracts with the answer written out. -/
import Derived.Test.YteoibjacgnmnpaaVer3
namespace Go.Proofs.Yteoibjacgnmnpaa.Dat
open Go Go.RowKit Go.Proofs.Yteoibjacgnmnpaa.Mem
set_option linter.unusedVariables false
set_option linter.unusedSimpArgs false
theorem verIx (A B : Option Addr) (c d : Nat) (t : List ByteArray) (l : List DFunc) (w : World) (ht : Knd.str.Row w A t.length t) (hr : kFunc.Row w B l.length l) (htm : t.length ≤ 1048576) (hm : l.length ≤ 1048576) (htv : ∀ x ∈ t, x.size ≤ maxLen) (hv : ∀ x ∈ l, x.code.length ≤ 1048576 ∧ -9223372036854775808 ≤ x.locals ∧ x.locals ≤ 9223372036854775807) :
    Calls Try.prog 143 #[.agg #[.slice A t.length c, .slice B l.length d]] w fun e w' => e = .returned (.agg #[.int .i64 (verL t l).1, .int .i64 (verL t l).2.1, .int .i64 (verL t l).2.2]) ∧ Below w.heap.size w w' := verI A B c d t l w ht hr htm hm htv hv
theorem ver03x (A B : Option Addr) (c d : Nat) (t : List ByteArray) (l : List DFunc) (w : World) (ht : Knd.str.Row w A t.length t) (hr : kFunc.Row w B l.length l) (htm : t.length ≤ 1048576) (hm : l.length ≤ 1048576) (htv : ∀ x ∈ t, x.size ≤ maxLen) (hv : ∀ x ∈ l, x.code.length ≤ 1048576 ∧ -9223372036854775808 ≤ x.locals ∧ x.locals ≤ 9223372036854775807) :
    Calls Try.prog 139 #[.agg #[.slice A t.length c, .slice B l.length d]] w fun e w' => e = .returned (.agg #[.int .i64 (verL t l).1, .int .i64 (verL t l).2.1, .int .i64 (verL t l).2.2]) ∧ Below w.heap.size w w' := ver03 A B c d t l w ht hr htm hm htv hv
end Go.Proofs.Yteoibjacgnmnpaa.Dat
