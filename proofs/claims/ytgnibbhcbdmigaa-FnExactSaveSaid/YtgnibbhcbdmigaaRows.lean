/-
  No cell of these rows narrows 'for every input' (looked for: loops, veiled, ifaces, maps, wideKeys, modest, calm, conditions, laid).
  DERIVED. THE GIVEN ROWS OF THIS SEAT. 7 by the template 'for every input the law returns true; each argument reads behind the call as it read before'; 0 by the template 'total and deterministic' (their statements: YtgnibbhcbdmigaaTotals.lean).
  GIVEN WITH THE SEED: the statements are not yours to turn. If you find one false, say at which input.
  Laid BY PROGRAM, IN A SANDBOX (cutbox-rows.mjs): the forced cells as the released guide's own fill.sh prints them over the translation 5e2f6291dd536035… (all of the seat's roots in one cut). By AI agents, Wed Nov 11 2026. No macro, syntax, notation, axiom, sorry.
-/
import Derived.Test.YtgnibbhcbdmigaaChecked
import GoSem.Claim
import GoSem.ClaimJoined
import GoSem.ClaimMapViews
import Derived.JoinedTies
import Derived.KernelRfl
namespace Go.Proofs.Ytgnibbhcbdmigaa
/- THE CELL 'sum', in the pinned program and in every row, IS THE sha256 OF THE DUMP (.gsa) THAT YtgnibbhcbdmigaaProg.lean LOADS. Nothing in Lean hashes anything: it is a label: what it is worth is what the hold of that sum in a sandbox is worth. -/
noncomputable def Try.pinned : Pinned := { name := "ytgnibbhcbdmigaa", sum := "5e2f6291dd536035f46aa0b6c262d8aeea56c7ef42e6480dbf87fb20d17086a6", checked := Try.checked }
namespace Rows
def none {H : Type} : Left H := { results := [], args := [] }

/-- 'laws.FnExactInsOk': WHATEVER THE INPUT: true; the input reads as it did. -/
def fnExactInsOkSpec : ChangeSpec := { name := "fnExactInsOk", fn := fun _ => fun
  | [d1, d2, d3] => { results := [.lit (.bool true)], args := [d1, d2, d3] }
  | _ => none }
def fnExactInsOkRow : OpenClaim := { program := "ytgnibbhcbdmigaa", sum := "5e2f6291dd536035f46aa0b6c262d8aeea56c7ef42e6480dbf87fb20d17086a6", func := "loop.example/g00094/laws.FnExactInsOk", spec := "fnExactInsOk", apart := false }
def FnExactInsOkSaid : Prop := fnExactInsOkRow.holds Try.pinned (OpenSpec.ofChange fnExactInsOkSpec)

/-- ITS FALSE NEIGHBOUR: 'it returns false'. Refute it at one input. -/
def fnExactInsOkWrong : ChangeSpec := { name := "fnExactInsOk", fn := fun _ => fun
  | [d1, d2, d3] => { results := [.lit (.bool false)], args := [d1, d2, d3] }
  | _ => none }
def FnExactInsOkWrongFalsely : Prop := fnExactInsOkRow.holds Try.pinned (OpenSpec.ofChange fnExactInsOkWrong)

/-- 'laws.FnExactModuleOk': WHATEVER THE INPUT: true; the input reads as it did. -/
def fnExactModuleOkSpec : ChangeSpec := { name := "fnExactModuleOk", fn := fun _ => fun
  | [d] => { results := [.lit (.bool true)], args := [d] }
  | _ => none }
def fnExactModuleOkRow : OpenClaim := { program := "ytgnibbhcbdmigaa", sum := "5e2f6291dd536035f46aa0b6c262d8aeea56c7ef42e6480dbf87fb20d17086a6", func := "loop.example/g00094/laws.FnExactModuleOk", spec := "fnExactModuleOk", unfollowed := true, recurses := true, apart := false }
def FnExactModuleOkSaid : Prop := fnExactModuleOkRow.holds Try.pinned (OpenSpec.ofChange fnExactModuleOkSpec)

/-- ITS FALSE NEIGHBOUR: 'it returns false'. Refute it at one input. -/
def fnExactModuleOkWrong : ChangeSpec := { name := "fnExactModuleOk", fn := fun _ => fun
  | [d] => { results := [.lit (.bool false)], args := [d] }
  | _ => none }
def FnExactModuleOkWrongFalsely : Prop := fnExactModuleOkRow.holds Try.pinned (OpenSpec.ofChange fnExactModuleOkWrong)

/-- 'laws.FnExactSave': WHATEVER THE INPUT: true; the input reads as it did. -/
def fnExactSaveSpec : ChangeSpec := { name := "fnExactSave", fn := fun _ => fun
  | [d] => { results := [.lit (.bool true)], args := [d] }
  | _ => none }
def fnExactSaveRow : OpenClaim := { program := "ytgnibbhcbdmigaa", sum := "5e2f6291dd536035f46aa0b6c262d8aeea56c7ef42e6480dbf87fb20d17086a6", func := "loop.example/g00094/laws.FnExactSave", spec := "fnExactSave", unfollowed := true, recurses := true, apart := false }
def FnExactSaveSaid : Prop := fnExactSaveRow.holds Try.pinned (OpenSpec.ofChange fnExactSaveSpec)

/-- ITS FALSE NEIGHBOUR: 'it returns false'. Refute it at one input. -/
def fnExactSaveWrong : ChangeSpec := { name := "fnExactSave", fn := fun _ => fun
  | [d] => { results := [.lit (.bool false)], args := [d] }
  | _ => none }
def FnExactSaveWrongFalsely : Prop := fnExactSaveRow.holds Try.pinned (OpenSpec.ofChange fnExactSaveWrong)

/-- 'laws.FnExactLoad': WHATEVER THE INPUT: true; the input reads as it did. -/
def fnExactLoadSpec : ChangeSpec := { name := "fnExactLoad", fn := fun _ => fun
  | [d] => { results := [.lit (.bool true)], args := [d] }
  | _ => none }
def fnExactLoadRow : OpenClaim := { program := "ytgnibbhcbdmigaa", sum := "5e2f6291dd536035f46aa0b6c262d8aeea56c7ef42e6480dbf87fb20d17086a6", func := "loop.example/g00094/laws.FnExactLoad", spec := "fnExactLoad", unfollowed := true, recurses := true, apart := false }
def FnExactLoadSaid : Prop := fnExactLoadRow.holds Try.pinned (OpenSpec.ofChange fnExactLoadSpec)

/-- ITS FALSE NEIGHBOUR: 'it returns false'. Refute it at one input. -/
def fnExactLoadWrong : ChangeSpec := { name := "fnExactLoad", fn := fun _ => fun
  | [d] => { results := [.lit (.bool false)], args := [d] }
  | _ => none }
def FnExactLoadWrongFalsely : Prop := fnExactLoadRow.holds Try.pinned (OpenSpec.ofChange fnExactLoadWrong)

/-- 'laws.FnExactVerify': WHATEVER THE INPUT: true; the input reads as it did. -/
def fnExactVerifySpec : ChangeSpec := { name := "fnExactVerify", fn := fun _ => fun
  | [d] => { results := [.lit (.bool true)], args := [d] }
  | _ => none }
def fnExactVerifyRow : OpenClaim := { program := "ytgnibbhcbdmigaa", sum := "5e2f6291dd536035f46aa0b6c262d8aeea56c7ef42e6480dbf87fb20d17086a6", func := "loop.example/g00094/laws.FnExactVerify", spec := "fnExactVerify", unfollowed := true, recurses := true, apart := false }
def FnExactVerifySaid : Prop := fnExactVerifyRow.holds Try.pinned (OpenSpec.ofChange fnExactVerifySpec)

/-- ITS FALSE NEIGHBOUR: 'it returns false'. Refute it at one input. -/
def fnExactVerifyWrong : ChangeSpec := { name := "fnExactVerify", fn := fun _ => fun
  | [d] => { results := [.lit (.bool false)], args := [d] }
  | _ => none }
def FnExactVerifyWrongFalsely : Prop := fnExactVerifyRow.holds Try.pinned (OpenSpec.ofChange fnExactVerifyWrong)

/-- 'laws.FnExactDepthsOf': WHATEVER THE INPUT: true; the input reads as it did. -/
def fnExactDepthsOfSpec : ChangeSpec := { name := "fnExactDepthsOf", fn := fun _ => fun
  | [d1, d2] => { results := [.lit (.bool true)], args := [d1, d2] }
  | _ => none }
def fnExactDepthsOfRow : OpenClaim := { program := "ytgnibbhcbdmigaa", sum := "5e2f6291dd536035f46aa0b6c262d8aeea56c7ef42e6480dbf87fb20d17086a6", func := "loop.example/g00094/laws.FnExactDepthsOf", spec := "fnExactDepthsOf", unfollowed := true, recurses := true, apart := false }
def FnExactDepthsOfSaid : Prop := fnExactDepthsOfRow.holds Try.pinned (OpenSpec.ofChange fnExactDepthsOfSpec)

/-- ITS FALSE NEIGHBOUR: 'it returns false'. Refute it at one input. -/
def fnExactDepthsOfWrong : ChangeSpec := { name := "fnExactDepthsOf", fn := fun _ => fun
  | [d1, d2] => { results := [.lit (.bool false)], args := [d1, d2] }
  | _ => none }
def FnExactDepthsOfWrongFalsely : Prop := fnExactDepthsOfRow.holds Try.pinned (OpenSpec.ofChange fnExactDepthsOfWrong)

/-- 'laws.FnExactStraight': WHATEVER THE INPUT: true; the input reads as it did. -/
def fnExactStraightSpec : ChangeSpec := { name := "fnExactStraight", fn := fun _ => fun
  | [d1, d2] => { results := [.lit (.bool true)], args := [d1, d2] }
  | _ => none }
def fnExactStraightRow : OpenClaim := { program := "ytgnibbhcbdmigaa", sum := "5e2f6291dd536035f46aa0b6c262d8aeea56c7ef42e6480dbf87fb20d17086a6", func := "loop.example/g00094/laws.FnExactStraight", spec := "fnExactStraight", unfollowed := true, recurses := true, apart := false }
def FnExactStraightSaid : Prop := fnExactStraightRow.holds Try.pinned (OpenSpec.ofChange fnExactStraightSpec)

/-- ITS FALSE NEIGHBOUR: 'it returns false'. Refute it at one input. -/
def fnExactStraightWrong : ChangeSpec := { name := "fnExactStraight", fn := fun _ => fun
  | [d1, d2] => { results := [.lit (.bool false)], args := [d1, d2] }
  | _ => none }
def FnExactStraightWrongFalsely : Prop := fnExactStraightRow.holds Try.pinned (OpenSpec.ofChange fnExactStraightWrong)

/- THE SECOND FORM. 'bulk': how many values and letters a reading holds, each counted each time it is reached (what is shared counts as often as it is met; a slice's spare places count too). A statement '..UptoSaid' is the law's where the arguments, and the package variables that the reading takes, are together of bulk at most 1048576: NARROWER than '..Said'. Prove '..Said' where nothing that the law and all that it calls make is longer than what came in: it says more and counts as full. Else prove '..UptoSaid'. A law counts once. -/
mutual
def uptoBulk {H : Type} : DataW H → Nat
  | .lit (.string bytes) => bytes.length + 1
  | .lit _ => 1
  | .nil => 1
  | .ptr d => uptoBulk d + 1
  | .slice elems spare => uptoBulkAll elems + uptoBulkAll spare + 1
  | .agg parts => uptoBulkAll parts + 1
  | .iface _ d => uptoBulk d + 1
  | .map entries => uptoBulkEntries entries + 1
  | .held _ => 1
def uptoBulkAll {H : Type} : List (DataW H) → Nat
  | [] => 0
  | d :: r => uptoBulk d + uptoBulkAll r
def uptoBulkEntries {H : Type} : List (Lit × DataW H) → Nat
  | [] => 0
  | x :: r => uptoBulkEntry x + uptoBulkEntries r
def uptoBulkEntry {H : Type} : Lit × DataW H → Nat
  | (.string bytes, d) => bytes.length + uptoBulk d + 1
  | (_, d) => uptoBulk d + 1
 end
def uptoSmall : (H : Type) → List (DataW H) → Bool := fun _ ds => decide (uptoBulkAll ds ≤ 1048576)
def OpenSpec.upto (s : _root_.Go.ChangeSpec) : _root_.Go.OpenSpec := { _root_.Go.OpenSpec.ofChange s with cond := some uptoSmall }

/-- 'laws.FnExactInsOk', WHERE WHAT IT READS IS OF BULK AT MOST 1048576: true; the input reads as it did. -/
def fnExactInsOkUptoRow : OpenClaim := { program := "ytgnibbhcbdmigaa", sum := "5e2f6291dd536035f46aa0b6c262d8aeea56c7ef42e6480dbf87fb20d17086a6", func := "loop.example/g00094/laws.FnExactInsOk", spec := "fnExactInsOk", apart := false, narrowed := true }
def FnExactInsOkUptoSaid : Prop := fnExactInsOkUptoRow.holds Try.pinned (OpenSpec.upto fnExactInsOkSpec)

/-- 'laws.FnExactModuleOk', WHERE WHAT IT READS IS OF BULK AT MOST 1048576: true; the input reads as it did. -/
def fnExactModuleOkUptoRow : OpenClaim := { program := "ytgnibbhcbdmigaa", sum := "5e2f6291dd536035f46aa0b6c262d8aeea56c7ef42e6480dbf87fb20d17086a6", func := "loop.example/g00094/laws.FnExactModuleOk", spec := "fnExactModuleOk", unfollowed := true, recurses := true, apart := false, narrowed := true }
def FnExactModuleOkUptoSaid : Prop := fnExactModuleOkUptoRow.holds Try.pinned (OpenSpec.upto fnExactModuleOkSpec)

/-- 'laws.FnExactSave', WHERE WHAT IT READS IS OF BULK AT MOST 1048576: true; the input reads as it did. -/
def fnExactSaveUptoRow : OpenClaim := { program := "ytgnibbhcbdmigaa", sum := "5e2f6291dd536035f46aa0b6c262d8aeea56c7ef42e6480dbf87fb20d17086a6", func := "loop.example/g00094/laws.FnExactSave", spec := "fnExactSave", unfollowed := true, recurses := true, apart := false, narrowed := true }
def FnExactSaveUptoSaid : Prop := fnExactSaveUptoRow.holds Try.pinned (OpenSpec.upto fnExactSaveSpec)

/-- 'laws.FnExactLoad', WHERE WHAT IT READS IS OF BULK AT MOST 1048576: true; the input reads as it did. -/
def fnExactLoadUptoRow : OpenClaim := { program := "ytgnibbhcbdmigaa", sum := "5e2f6291dd536035f46aa0b6c262d8aeea56c7ef42e6480dbf87fb20d17086a6", func := "loop.example/g00094/laws.FnExactLoad", spec := "fnExactLoad", unfollowed := true, recurses := true, apart := false, narrowed := true }
def FnExactLoadUptoSaid : Prop := fnExactLoadUptoRow.holds Try.pinned (OpenSpec.upto fnExactLoadSpec)

/-- 'laws.FnExactVerify', WHERE WHAT IT READS IS OF BULK AT MOST 1048576: true; the input reads as it did. -/
def fnExactVerifyUptoRow : OpenClaim := { program := "ytgnibbhcbdmigaa", sum := "5e2f6291dd536035f46aa0b6c262d8aeea56c7ef42e6480dbf87fb20d17086a6", func := "loop.example/g00094/laws.FnExactVerify", spec := "fnExactVerify", unfollowed := true, recurses := true, apart := false, narrowed := true }
def FnExactVerifyUptoSaid : Prop := fnExactVerifyUptoRow.holds Try.pinned (OpenSpec.upto fnExactVerifySpec)

/-- 'laws.FnExactDepthsOf', WHERE WHAT IT READS IS OF BULK AT MOST 1048576: true; the input reads as it did. -/
def fnExactDepthsOfUptoRow : OpenClaim := { program := "ytgnibbhcbdmigaa", sum := "5e2f6291dd536035f46aa0b6c262d8aeea56c7ef42e6480dbf87fb20d17086a6", func := "loop.example/g00094/laws.FnExactDepthsOf", spec := "fnExactDepthsOf", unfollowed := true, recurses := true, apart := false, narrowed := true }
def FnExactDepthsOfUptoSaid : Prop := fnExactDepthsOfUptoRow.holds Try.pinned (OpenSpec.upto fnExactDepthsOfSpec)

/-- 'laws.FnExactStraight', WHERE WHAT IT READS IS OF BULK AT MOST 1048576: true; the input reads as it did. -/
def fnExactStraightUptoRow : OpenClaim := { program := "ytgnibbhcbdmigaa", sum := "5e2f6291dd536035f46aa0b6c262d8aeea56c7ef42e6480dbf87fb20d17086a6", func := "loop.example/g00094/laws.FnExactStraight", spec := "fnExactStraight", unfollowed := true, recurses := true, apart := false, narrowed := true }
def FnExactStraightUptoSaid : Prop := fnExactStraightUptoRow.holds Try.pinned (OpenSpec.upto fnExactStraightSpec)

end Rows
end Go.Proofs.Ytgnibbhcbdmigaa
