/- The walk of the law of the constants. -/
import Derived.Test.YtkllanigogkbiaaMem
import Derived.Test.YtkllanigogkbiaaProg
namespace Go.Proofs.Ytkllanigogkbiaa.Const
open Go Go.RowKit Go.Proofs.Ytkllanigogkbiaa.Mem
set_option maxRecDepth 1000000 in
set_option maxHeartbeats 4000000 in
theorem constLaw (w : World) : Calls Try.prog 3 #[] w fun e w' => e = .returned (.bool true) ∧ Below w.heap.size w w' := by
  go_enter Try.func3, Try.ntmps3
  go_wp2
  go_ret
  exact ⟨rfl, (by repeat (first | exact Below.refl _ _ | assumption | (refine bl_set ?_ (by dsimp only; omega) _) | refine bl_alloc ?_ _ | refine bl_drewN ?_ _ | refine bl_drew ?_ | refine bl_step ?_ (by assumption)))⟩
end Go.Proofs.Ytkllanigogkbiaa.Const
