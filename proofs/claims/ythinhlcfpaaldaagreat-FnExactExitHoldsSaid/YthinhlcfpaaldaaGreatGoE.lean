/- Whether a state stands at the entry of code. -/
import Derived.Test.YthinhlcfpaaldaaGreatGoI
import Derived.Test.YthinhlcfpaaldaaGreatVmO
namespace Go.Proofs.YthinhlcfpaaldaaGreat.Dat
open Go Go.RowKit Go.Proofs.YthinhlcfpaaldaaGreat.Mem
set_option linter.unusedVariables false
set_option linter.unusedSimpArgs false
end Go.Proofs.YthinhlcfpaaldaaGreat.Dat
