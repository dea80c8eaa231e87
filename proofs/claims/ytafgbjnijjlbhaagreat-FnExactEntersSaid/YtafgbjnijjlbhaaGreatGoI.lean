/- The ops at a place; the counts of ops. -/
import Derived.Test.YtafgbjnijjlbhaaGreatFlO
namespace Go.Proofs.YtafgbjnijjlbhaaGreat.Dat
open Go Go.RowKit Go.Proofs.YtafgbjnijjlbhaaGreat.Mem
set_option linter.unusedVariables false
set_option linter.unusedSimpArgs false
end Go.Proofs.YtafgbjnijjlbhaaGreat.Dat
