/- The specs of code, plainly. -/
import Derived.Test.YthinhlcfpaaldaaGreatSoP
import Derived.Test.YthinhlcfpaaldaaGreatGExit
namespace Go.Proofs.YthinhlcfpaaldaaGreat.Dat
open Go Go.RowKit Go.Proofs.YthinhlcfpaaldaaGreat.Mem
set_option linter.unusedVariables false
set_option linter.unusedSimpArgs false
/-! ### The specs of an exit -/
def specZ (es : List DExit) : List DSpec := (es.filter (fun e => decide (e.kind = 2))).map (fun e => e.spec)
theorem specZ_yes {es : List DExit} {k : Nat} {e : DExit} (h : es[k]? = some e) (h2 : e.kind = 2) : specZ (es.take (k + 1)) = specZ (es.take k) ++ [e.spec] := by
  unfold specZ
  rw [List.take_add_one, h, List.filter_append, List.map_append]
  simp [h2]
theorem specZ_not {es : List DExit} {k : Nat} {e : DExit} (h : es[k]? = some e) (h2 : ¬ e.kind = 2) : specZ (es.take (k + 1)) = specZ (es.take k) := by
  unfold specZ
  rw [List.take_add_one, h, List.filter_append, List.map_append]
  simp [h2]
theorem specZ_len (es : List DExit) (k : Nat) : (specZ (es.take k)).length ≤ es.length := by
  unfold specZ
  rw [List.length_map]
  refine Nat.le_trans (List.length_filter_le _ _) ?_
  rw [List.length_take]
  omega
end Go.Proofs.YthinhlcfpaaldaaGreat.Dat
