/- Straight, in the program and in the reference. -/
import Derived.Test.YteoibjacgnmnpaaStr
namespace Go.Proofs.Yteoibjacgnmnpaa.Dat
open Go Go.RowKit Go.Proofs.Yteoibjacgnmnpaa.Mem
set_option linter.unusedVariables false
set_option linter.unusedSimpArgs false
theorem isJumpI (op a : Int) (w : World) {r : Bool} (h : isJmp op = r) : Calls Try.prog 93 #[.agg #[.int .i64 op, .int .i64 a]] w fun e w' => e = .returned (.bool r) ∧ Below w.heap.size w w' := by
  have H := Lib.hid h
  clear h
  go_enter Try.func93, Try.ntmps93
  go_wp2_with fail
  refine (inRange _ H.out).mono ?_
  rintro e w' ⟨rfl, rfl⟩
  go_wp2
  go_ret
  exact ⟨rfl, (by repeat (first | exact Below.refl _ _ | assumption | (refine bl_set ?_ (by dsimp only; omega) _) | refine bl_alloc ?_ _ | refine bl_drewN ?_ _ | refine bl_drew ?_ | refine bl_step ?_ (by assumption)))⟩
def isFuncB (t : List ByteArray) (l : List DFunc) (f : Int) : Bool := btw f 0 ((l.length : Int) - 1) && isGoodB t l
/-- Straight, whole. -/
def strB (t : List ByteArray) (l : List DFunc) (f : Int) : Bool := isFuncB t l f && straightB l (l.getD f.toNat zFunc).code
end Go.Proofs.Yteoibjacgnmnpaa.Dat
