/- The shelf's generic contracts laid at this program. Written by a program (layg.py). -/
import Derived.Shelf.Spec.SlicesGrow
import Derived.Test.YtafgbjnijjlbhaaGreatProg
namespace Go.Proofs.YtafgbjnijjlbhaaGreat.Dat
open Go Go.Shelf
end Go.Proofs.YtafgbjnijjlbhaaGreat.Dat
