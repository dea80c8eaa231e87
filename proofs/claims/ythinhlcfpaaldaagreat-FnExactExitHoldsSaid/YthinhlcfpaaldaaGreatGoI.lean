/- The ops at a place; the counts of ops. -/
import Derived.Test.YthinhlcfpaaldaaGreatFlO
namespace Go.Proofs.YthinhlcfpaaldaaGreat.Dat
open Go Go.RowKit Go.Proofs.YthinhlcfpaaldaaGreat.Mem
set_option linter.unusedVariables false
set_option linter.unusedSimpArgs false
theorem fastOk_fast {t : List ByteArray} {l : List DFunc} {c : DFast} (h : fastOkB t l c = true) : fastB l c = true := by
  unfold fastOkB at h
  rw [Bool.and_eq_true] at h
  exact h.2
end Go.Proofs.YthinhlcfpaaldaaGreat.Dat
