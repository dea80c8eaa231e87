/-
  No cell of these rows narrows 'for every input' (looked for: loops, veiled, ifaces, maps, wideKeys, modest, calm, conditions, laid).
  DERIVED. THE GIVEN ROWS OF THIS SEAT. 8 by the template 'for every input the law returns true; each argument reads behind the call as it read before'; 0 by the template 'total and deterministic' (their statements: YthinhlcfpaaldaaGreatTotals.lean).
  GIVEN WITH THE SEED: the statements are not yours to turn. If you find one false, say at which input.
  Laid BY PROGRAM, IN A SANDBOX (cutbox-rows.mjs): the forced cells as the released guide's own fill.sh prints them over the translation 2e1e6f3fadc90348… (all of the seat's roots in one cut). By AI agents, Wed Nov 11 2026. No macro, syntax, notation, axiom, sorry.
-/
import Derived.Test.YthinhlcfpaaldaaGreatChecked
import GoSem.Claim
import GoSem.ClaimJoined
import GoSem.ClaimMapViews
import Derived.JoinedTies
import Derived.KernelRfl
namespace Go.Proofs.YthinhlcfpaaldaaGreat
/- THE CELL 'sum', in the pinned program and in every row, IS THE sha256 OF THE DUMP (.gsa) THAT YthinhlcfpaaldaaGreatProg.lean LOADS. Nothing in Lean hashes anything: it is a label: what it is worth is what the hold of that sum in a sandbox is worth. -/
noncomputable def Tryz.pinned : Pinned := { name := "ythinhlcfpaaldaagreat", sum := "2e1e6f3fadc90348938343922ecfc213467c324ee195e06aa06f0481389dfd88", checked := Tryz.checked }
namespace Rows
def none {H : Type} : Left H := { results := [], args := [] }

/-- 'laws.FnExactSpecsOf': WHATEVER THE INPUT: true; the input reads as it did. -/
def fnExactSpecsOfSpec : ChangeSpec := { name := "fnExactSpecsOf", fn := fun _ => fun
  | [d1, d2] => { results := [.lit (.bool true)], args := [d1, d2] }
  | _ => none }
def fnExactSpecsOfRow : OpenClaim := { program := "ythinhlcfpaaldaagreat", sum := "2e1e6f3fadc90348938343922ecfc213467c324ee195e06aa06f0481389dfd88", func := "loop.example/g00094/laws.FnExactSpecsOf", spec := "fnExactSpecsOf", unfollowed := true, recurses := true, apart := false }
def FnExactSpecsOfSaid : Prop := fnExactSpecsOfRow.holds Tryz.pinned (OpenSpec.ofChange fnExactSpecsOfSpec)

/-- ITS FALSE NEIGHBOUR: 'it returns false'. Refute it at one input. -/
def fnExactSpecsOfWrong : ChangeSpec := { name := "fnExactSpecsOf", fn := fun _ => fun
  | [d1, d2] => { results := [.lit (.bool false)], args := [d1, d2] }
  | _ => none }
def FnExactSpecsOfWrongFalsely : Prop := fnExactSpecsOfRow.holds Tryz.pinned (OpenSpec.ofChange fnExactSpecsOfWrong)

/-- 'laws.FnExactTierOk': WHATEVER THE INPUT: true; the input reads as it did. -/
def fnExactTierOkSpec : ChangeSpec := { name := "fnExactTierOk", fn := fun _ => fun
  | [d1, d2] => { results := [.lit (.bool true)], args := [d1, d2] }
  | _ => none }
def fnExactTierOkRow : OpenClaim := { program := "ythinhlcfpaaldaagreat", sum := "2e1e6f3fadc90348938343922ecfc213467c324ee195e06aa06f0481389dfd88", func := "loop.example/g00094/laws.FnExactTierOk", spec := "fnExactTierOk", unfollowed := true, recurses := true, apart := false }
def FnExactTierOkSaid : Prop := fnExactTierOkRow.holds Tryz.pinned (OpenSpec.ofChange fnExactTierOkSpec)

/-- ITS FALSE NEIGHBOUR: 'it returns false'. Refute it at one input. -/
def fnExactTierOkWrong : ChangeSpec := { name := "fnExactTierOk", fn := fun _ => fun
  | [d1, d2] => { results := [.lit (.bool false)], args := [d1, d2] }
  | _ => none }
def FnExactTierOkWrongFalsely : Prop := fnExactTierOkRow.holds Tryz.pinned (OpenSpec.ofChange fnExactTierOkWrong)

/-- 'laws.FnExactAlike': WHATEVER THE INPUT: true; the input reads as it did. -/
def fnExactAlikeSpec : ChangeSpec := { name := "fnExactAlike", fn := fun _ => fun
  | [d1, d2, d3] => { results := [.lit (.bool true)], args := [d1, d2, d3] }
  | _ => none }
def fnExactAlikeRow : OpenClaim := { program := "ythinhlcfpaaldaagreat", sum := "2e1e6f3fadc90348938343922ecfc213467c324ee195e06aa06f0481389dfd88", func := "loop.example/g00094/laws.FnExactAlike", spec := "fnExactAlike", unfollowed := true, recurses := true, apart := false }
def FnExactAlikeSaid : Prop := fnExactAlikeRow.holds Tryz.pinned (OpenSpec.ofChange fnExactAlikeSpec)

/-- ITS FALSE NEIGHBOUR: 'it returns false'. Refute it at one input. -/
def fnExactAlikeWrong : ChangeSpec := { name := "fnExactAlike", fn := fun _ => fun
  | [d1, d2, d3] => { results := [.lit (.bool false)], args := [d1, d2, d3] }
  | _ => none }
def FnExactAlikeWrongFalsely : Prop := fnExactAlikeRow.holds Tryz.pinned (OpenSpec.ofChange fnExactAlikeWrong)

/-- 'laws.FnExactWriteVm': WHATEVER THE INPUT: true; the input reads as it did. -/
def fnExactWriteVmSpec : ChangeSpec := { name := "fnExactWriteVm", fn := fun _ => fun
  | [d1, d2] => { results := [.lit (.bool true)], args := [d1, d2] }
  | _ => none }
def fnExactWriteVmRow : OpenClaim := { program := "ythinhlcfpaaldaagreat", sum := "2e1e6f3fadc90348938343922ecfc213467c324ee195e06aa06f0481389dfd88", func := "loop.example/g00094/laws.FnExactWriteVm", spec := "fnExactWriteVm", unfollowed := true, recurses := true, apart := false }
def FnExactWriteVmSaid : Prop := fnExactWriteVmRow.holds Tryz.pinned (OpenSpec.ofChange fnExactWriteVmSpec)

/-- ITS FALSE NEIGHBOUR: 'it returns false'. Refute it at one input. -/
def fnExactWriteVmWrong : ChangeSpec := { name := "fnExactWriteVm", fn := fun _ => fun
  | [d1, d2] => { results := [.lit (.bool false)], args := [d1, d2] }
  | _ => none }
def FnExactWriteVmWrongFalsely : Prop := fnExactWriteVmRow.holds Tryz.pinned (OpenSpec.ofChange fnExactWriteVmWrong)

/-- 'laws.FnExactCanon': WHATEVER THE INPUT: true; the input reads as it did. -/
def fnExactCanonSpec : ChangeSpec := { name := "fnExactCanon", fn := fun _ => fun
  | [d1, d2] => { results := [.lit (.bool true)], args := [d1, d2] }
  | _ => none }
def fnExactCanonRow : OpenClaim := { program := "ythinhlcfpaaldaagreat", sum := "2e1e6f3fadc90348938343922ecfc213467c324ee195e06aa06f0481389dfd88", func := "loop.example/g00094/laws.FnExactCanon", spec := "fnExactCanon", unfollowed := true, recurses := true, apart := false }
def FnExactCanonSaid : Prop := fnExactCanonRow.holds Tryz.pinned (OpenSpec.ofChange fnExactCanonSpec)

/-- ITS FALSE NEIGHBOUR: 'it returns false'. Refute it at one input. -/
def fnExactCanonWrong : ChangeSpec := { name := "fnExactCanon", fn := fun _ => fun
  | [d1, d2] => { results := [.lit (.bool false)], args := [d1, d2] }
  | _ => none }
def FnExactCanonWrongFalsely : Prop := fnExactCanonRow.holds Tryz.pinned (OpenSpec.ofChange fnExactCanonWrong)

/-- 'laws.FnExactObserve': WHATEVER THE INPUT: true; the input reads as it did. -/
def fnExactObserveSpec : ChangeSpec := { name := "fnExactObserve", fn := fun _ => fun
  | [d1, d2, d3] => { results := [.lit (.bool true)], args := [d1, d2, d3] }
  | _ => none }
def fnExactObserveRow : OpenClaim := { program := "ythinhlcfpaaldaagreat", sum := "2e1e6f3fadc90348938343922ecfc213467c324ee195e06aa06f0481389dfd88", func := "loop.example/g00094/laws.FnExactObserve", spec := "fnExactObserve", inPlace := ["slices.overlaps[loop.example/g00094/impl.Site]"], unfollowed := true, recurses := true, apart := false }
def FnExactObserveSaid : Prop := fnExactObserveRow.holds Tryz.pinned (OpenSpec.ofChange fnExactObserveSpec)

/-- ITS FALSE NEIGHBOUR: 'it returns false'. Refute it at one input. -/
def fnExactObserveWrong : ChangeSpec := { name := "fnExactObserve", fn := fun _ => fun
  | [d1, d2, d3] => { results := [.lit (.bool false)], args := [d1, d2, d3] }
  | _ => none }
def FnExactObserveWrongFalsely : Prop := fnExactObserveRow.holds Tryz.pinned (OpenSpec.ofChange fnExactObserveWrong)

/-- 'laws.FnExactWriteFast': WHATEVER THE INPUT: true; the input reads as it did. -/
def fnExactWriteFastSpec : ChangeSpec := { name := "fnExactWriteFast", fn := fun _ => fun
  | [d1, d2] => { results := [.lit (.bool true)], args := [d1, d2] }
  | _ => none }
def fnExactWriteFastRow : OpenClaim := { program := "ythinhlcfpaaldaagreat", sum := "2e1e6f3fadc90348938343922ecfc213467c324ee195e06aa06f0481389dfd88", func := "loop.example/g00094/laws.FnExactWriteFast", spec := "fnExactWriteFast", unfollowed := true, recurses := true, apart := false }
def FnExactWriteFastSaid : Prop := fnExactWriteFastRow.holds Tryz.pinned (OpenSpec.ofChange fnExactWriteFastSpec)

/-- ITS FALSE NEIGHBOUR: 'it returns false'. Refute it at one input. -/
def fnExactWriteFastWrong : ChangeSpec := { name := "fnExactWriteFast", fn := fun _ => fun
  | [d1, d2] => { results := [.lit (.bool false)], args := [d1, d2] }
  | _ => none }
def FnExactWriteFastWrongFalsely : Prop := fnExactWriteFastRow.holds Tryz.pinned (OpenSpec.ofChange fnExactWriteFastWrong)

/-- 'laws.FnExactExitHolds': WHATEVER THE INPUT: true; the input reads as it did. -/
def fnExactExitHoldsSpec : ChangeSpec := { name := "fnExactExitHolds", fn := fun _ => fun
  | [d1, d2, d3, d4] => { results := [.lit (.bool true)], args := [d1, d2, d3, d4] }
  | _ => none }
def fnExactExitHoldsRow : OpenClaim := { program := "ythinhlcfpaaldaagreat", sum := "2e1e6f3fadc90348938343922ecfc213467c324ee195e06aa06f0481389dfd88", func := "loop.example/g00094/laws.FnExactExitHolds", spec := "fnExactExitHolds", unfollowed := true, recurses := true, apart := false }
def FnExactExitHoldsSaid : Prop := fnExactExitHoldsRow.holds Tryz.pinned (OpenSpec.ofChange fnExactExitHoldsSpec)

/-- ITS FALSE NEIGHBOUR: 'it returns false'. Refute it at one input. -/
def fnExactExitHoldsWrong : ChangeSpec := { name := "fnExactExitHolds", fn := fun _ => fun
  | [d1, d2, d3, d4] => { results := [.lit (.bool false)], args := [d1, d2, d3, d4] }
  | _ => none }
def FnExactExitHoldsWrongFalsely : Prop := fnExactExitHoldsRow.holds Tryz.pinned (OpenSpec.ofChange fnExactExitHoldsWrong)

/- THE SECOND FORM. 'bulk': how many values and letters a reading holds, each counted each time it is reached (what is shared counts as often as it is met; a slice's spare places count too). A statement '..UptoSaid' is the law's where the arguments, and the package variables that the reading takes, are together of bulk at most 1048576: NARROWER than '..Said'. Prove '..Said' where nothing that the law and all that it calls make is longer than what came in: it says more and counts as full. Else prove '..UptoSaid'. A law counts once. -/
mutual
def uptoBulk {H : Type} : DataW H → Nat
  | .lit (.string bytes) => bytes.length + 1
  | .lit _ => 1
  | .nil => 1
  | .ptr d => uptoBulk d + 1
  | .slice elems spare => uptoBulkAll elems + uptoBulkAll spare + 1
  | .agg parts => uptoBulkAll parts + 1
  | .iface _ d => uptoBulk d + 1
  | .map entries => uptoBulkEntries entries + 1
  | .held _ => 1
def uptoBulkAll {H : Type} : List (DataW H) → Nat
  | [] => 0
  | d :: r => uptoBulk d + uptoBulkAll r
def uptoBulkEntries {H : Type} : List (Lit × DataW H) → Nat
  | [] => 0
  | x :: r => uptoBulkEntry x + uptoBulkEntries r
def uptoBulkEntry {H : Type} : Lit × DataW H → Nat
  | (.string bytes, d) => bytes.length + uptoBulk d + 1
  | (_, d) => uptoBulk d + 1
 end
def uptoSmall : (H : Type) → List (DataW H) → Bool := fun _ ds => decide (uptoBulkAll ds ≤ 1048576)
def OpenSpec.upto (s : _root_.Go.ChangeSpec) : _root_.Go.OpenSpec := { _root_.Go.OpenSpec.ofChange s with cond := some uptoSmall }

/-- 'laws.FnExactSpecsOf', WHERE WHAT IT READS IS OF BULK AT MOST 1048576: true; the input reads as it did. -/
def fnExactSpecsOfUptoRow : OpenClaim := { program := "ythinhlcfpaaldaagreat", sum := "2e1e6f3fadc90348938343922ecfc213467c324ee195e06aa06f0481389dfd88", func := "loop.example/g00094/laws.FnExactSpecsOf", spec := "fnExactSpecsOf", unfollowed := true, recurses := true, apart := false, narrowed := true }
def FnExactSpecsOfUptoSaid : Prop := fnExactSpecsOfUptoRow.holds Tryz.pinned (OpenSpec.upto fnExactSpecsOfSpec)

/-- 'laws.FnExactTierOk', WHERE WHAT IT READS IS OF BULK AT MOST 1048576: true; the input reads as it did. -/
def fnExactTierOkUptoRow : OpenClaim := { program := "ythinhlcfpaaldaagreat", sum := "2e1e6f3fadc90348938343922ecfc213467c324ee195e06aa06f0481389dfd88", func := "loop.example/g00094/laws.FnExactTierOk", spec := "fnExactTierOk", unfollowed := true, recurses := true, apart := false, narrowed := true }
def FnExactTierOkUptoSaid : Prop := fnExactTierOkUptoRow.holds Tryz.pinned (OpenSpec.upto fnExactTierOkSpec)

/-- 'laws.FnExactAlike', WHERE WHAT IT READS IS OF BULK AT MOST 1048576: true; the input reads as it did. -/
def fnExactAlikeUptoRow : OpenClaim := { program := "ythinhlcfpaaldaagreat", sum := "2e1e6f3fadc90348938343922ecfc213467c324ee195e06aa06f0481389dfd88", func := "loop.example/g00094/laws.FnExactAlike", spec := "fnExactAlike", unfollowed := true, recurses := true, apart := false, narrowed := true }
def FnExactAlikeUptoSaid : Prop := fnExactAlikeUptoRow.holds Tryz.pinned (OpenSpec.upto fnExactAlikeSpec)

/-- 'laws.FnExactWriteVm', WHERE WHAT IT READS IS OF BULK AT MOST 1048576: true; the input reads as it did. -/
def fnExactWriteVmUptoRow : OpenClaim := { program := "ythinhlcfpaaldaagreat", sum := "2e1e6f3fadc90348938343922ecfc213467c324ee195e06aa06f0481389dfd88", func := "loop.example/g00094/laws.FnExactWriteVm", spec := "fnExactWriteVm", unfollowed := true, recurses := true, apart := false, narrowed := true }
def FnExactWriteVmUptoSaid : Prop := fnExactWriteVmUptoRow.holds Tryz.pinned (OpenSpec.upto fnExactWriteVmSpec)

/-- 'laws.FnExactCanon', WHERE WHAT IT READS IS OF BULK AT MOST 1048576: true; the input reads as it did. -/
def fnExactCanonUptoRow : OpenClaim := { program := "ythinhlcfpaaldaagreat", sum := "2e1e6f3fadc90348938343922ecfc213467c324ee195e06aa06f0481389dfd88", func := "loop.example/g00094/laws.FnExactCanon", spec := "fnExactCanon", unfollowed := true, recurses := true, apart := false, narrowed := true }
def FnExactCanonUptoSaid : Prop := fnExactCanonUptoRow.holds Tryz.pinned (OpenSpec.upto fnExactCanonSpec)

/-- 'laws.FnExactObserve', WHERE WHAT IT READS IS OF BULK AT MOST 1048576: true; the input reads as it did. -/
def fnExactObserveUptoRow : OpenClaim := { program := "ythinhlcfpaaldaagreat", sum := "2e1e6f3fadc90348938343922ecfc213467c324ee195e06aa06f0481389dfd88", func := "loop.example/g00094/laws.FnExactObserve", spec := "fnExactObserve", inPlace := ["slices.overlaps[loop.example/g00094/impl.Site]"], unfollowed := true, recurses := true, apart := false, narrowed := true }
def FnExactObserveUptoSaid : Prop := fnExactObserveUptoRow.holds Tryz.pinned (OpenSpec.upto fnExactObserveSpec)

/-- 'laws.FnExactWriteFast', WHERE WHAT IT READS IS OF BULK AT MOST 1048576: true; the input reads as it did. -/
def fnExactWriteFastUptoRow : OpenClaim := { program := "ythinhlcfpaaldaagreat", sum := "2e1e6f3fadc90348938343922ecfc213467c324ee195e06aa06f0481389dfd88", func := "loop.example/g00094/laws.FnExactWriteFast", spec := "fnExactWriteFast", unfollowed := true, recurses := true, apart := false, narrowed := true }
def FnExactWriteFastUptoSaid : Prop := fnExactWriteFastUptoRow.holds Tryz.pinned (OpenSpec.upto fnExactWriteFastSpec)

/-- 'laws.FnExactExitHolds', WHERE WHAT IT READS IS OF BULK AT MOST 1048576: true; the input reads as it did. -/
def fnExactExitHoldsUptoRow : OpenClaim := { program := "ythinhlcfpaaldaagreat", sum := "2e1e6f3fadc90348938343922ecfc213467c324ee195e06aa06f0481389dfd88", func := "loop.example/g00094/laws.FnExactExitHolds", spec := "fnExactExitHolds", unfollowed := true, recurses := true, apart := false, narrowed := true }
def FnExactExitHoldsUptoSaid : Prop := fnExactExitHoldsUptoRow.holds Tryz.pinned (OpenSpec.upto fnExactExitHoldsSpec)

end Rows
end Go.Proofs.YthinhlcfpaaldaaGreat
