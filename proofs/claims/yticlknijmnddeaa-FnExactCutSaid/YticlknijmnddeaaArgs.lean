/- Arguments of function 0: in the program. -/
import Derived.Test.YticlknijmnddeaaValOk
import Derived.Test.YticlknijmnddeaaK3
namespace Go.Proofs.Yticlknijmnddeaa.Dat
open Go Go.RowKit Go.Proofs.Yticlknijmnddeaa.Mem
set_option linter.unusedVariables false
set_option linter.unusedSimpArgs false
def argsB (y : DFunc) (n : Nat) (args : List DValue) : Bool := decide ((args.length : Int) = y.params) && !(args.any fun v => !valB n 0 v)
end Go.Proofs.Yticlknijmnddeaa.Dat
