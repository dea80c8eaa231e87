/-
  No cell of these rows narrows 'for every input' (looked for: loops, veiled, ifaces, maps, wideKeys, modest, calm, conditions, laid).
  DERIVED. THE GIVEN ROWS OF THIS SEAT. 5 by the template 'for every input the law returns true; each argument reads behind the call as it read before'; 0 by the template 'total and deterministic' (their statements: YticlknijmnddeaaTotals.lean).
  GIVEN WITH THE SEED: the statements are not yours to turn. If you find one false, say at which input.
  Laid BY PROGRAM, IN A SANDBOX (cutbox-rows.mjs): the forced cells as the released guide's own fill.sh prints them over the translation 9d36820320ab9e7b… (all of the seat's roots in one cut). By AI agents, Wed Nov 11 2026. No macro, syntax, notation, axiom, sorry.
-/
import Derived.Test.YticlknijmnddeaaChecked
import GoSem.Claim
import GoSem.ClaimJoined
import GoSem.ClaimMapViews
import Derived.JoinedTies
import Derived.KernelRfl
namespace Go.Proofs.Yticlknijmnddeaa
/- THE CELL 'sum', in the pinned program and in every row, IS THE sha256 OF THE DUMP (.gsa) THAT YticlknijmnddeaaProg.lean LOADS. Nothing in Lean hashes anything: it is a label: what it is worth is what the hold of that sum in a sandbox is worth. -/
noncomputable def Try.pinned : Pinned := { name := "yticlknijmnddeaa", sum := "9d36820320ab9e7b8cc0205caefb6a4e1a62cb1fbad7020d7d868dd84411e1c0", checked := Try.checked }
namespace Rows
def none {H : Type} : Left H := { results := [], args := [] }

/-- 'laws.FnExactLoad': WHATEVER THE INPUT: true; the input reads as it did. -/
def fnExactLoadSpec : ChangeSpec := { name := "fnExactLoad", fn := fun _ => fun
  | [d] => { results := [.lit (.bool true)], args := [d] }
  | _ => none }
def fnExactLoadRow : OpenClaim := { program := "yticlknijmnddeaa", sum := "9d36820320ab9e7b8cc0205caefb6a4e1a62cb1fbad7020d7d868dd84411e1c0", func := "loop.example/g00094/laws.FnExactLoad", spec := "fnExactLoad", unfollowed := true, recurses := true, apart := false }
def FnExactLoadSaid : Prop := fnExactLoadRow.holds Try.pinned (OpenSpec.ofChange fnExactLoadSpec)

/-- ITS FALSE NEIGHBOUR: 'it returns false'. Refute it at one input. -/
def fnExactLoadWrong : ChangeSpec := { name := "fnExactLoad", fn := fun _ => fun
  | [d] => { results := [.lit (.bool false)], args := [d] }
  | _ => none }
def FnExactLoadWrongFalsely : Prop := fnExactLoadRow.holds Try.pinned (OpenSpec.ofChange fnExactLoadWrong)

/-- 'laws.FnExactCut': WHATEVER THE INPUT: true; the input reads as it did. -/
def fnExactCutSpec : ChangeSpec := { name := "fnExactCut", fn := fun _ => fun
  | [d] => { results := [.lit (.bool true)], args := [d] }
  | _ => none }
def fnExactCutRow : OpenClaim := { program := "yticlknijmnddeaa", sum := "9d36820320ab9e7b8cc0205caefb6a4e1a62cb1fbad7020d7d868dd84411e1c0", func := "loop.example/g00094/laws.FnExactCut", spec := "fnExactCut", unfollowed := true, recurses := true, apart := false }
def FnExactCutSaid : Prop := fnExactCutRow.holds Try.pinned (OpenSpec.ofChange fnExactCutSpec)

/-- ITS FALSE NEIGHBOUR: 'it returns false'. Refute it at one input. -/
def fnExactCutWrong : ChangeSpec := { name := "fnExactCut", fn := fun _ => fun
  | [d] => { results := [.lit (.bool false)], args := [d] }
  | _ => none }
def FnExactCutWrongFalsely : Prop := fnExactCutRow.holds Try.pinned (OpenSpec.ofChange fnExactCutWrong)

/-- 'laws.FnExactVmOk': WHATEVER THE INPUT: true; the input reads as it did. -/
def fnExactVmOkSpec : ChangeSpec := { name := "fnExactVmOk", fn := fun _ => fun
  | [d1, d2] => { results := [.lit (.bool true)], args := [d1, d2] }
  | _ => none }
def fnExactVmOkRow : OpenClaim := { program := "yticlknijmnddeaa", sum := "9d36820320ab9e7b8cc0205caefb6a4e1a62cb1fbad7020d7d868dd84411e1c0", func := "loop.example/g00094/laws.FnExactVmOk", spec := "fnExactVmOk", unfollowed := true, recurses := true, apart := false }
def FnExactVmOkSaid : Prop := fnExactVmOkRow.holds Try.pinned (OpenSpec.ofChange fnExactVmOkSpec)

/-- ITS FALSE NEIGHBOUR: 'it returns false'. Refute it at one input. -/
def fnExactVmOkWrong : ChangeSpec := { name := "fnExactVmOk", fn := fun _ => fun
  | [d1, d2] => { results := [.lit (.bool false)], args := [d1, d2] }
  | _ => none }
def FnExactVmOkWrongFalsely : Prop := fnExactVmOkRow.holds Try.pinned (OpenSpec.ofChange fnExactVmOkWrong)

/-- 'laws.FnExactMergeSites': WHATEVER THE INPUT: true; the input reads as it did. -/
def fnExactMergeSitesSpec : ChangeSpec := { name := "fnExactMergeSites", fn := fun _ => fun
  | [d1, d2, d3] => { results := [.lit (.bool true)], args := [d1, d2, d3] }
  | _ => none }
def fnExactMergeSitesRow : OpenClaim := { program := "yticlknijmnddeaa", sum := "9d36820320ab9e7b8cc0205caefb6a4e1a62cb1fbad7020d7d868dd84411e1c0", func := "loop.example/g00094/laws.FnExactMergeSites", spec := "fnExactMergeSites", inPlace := ["slices.overlaps[loop.example/g00094/impl.Site]"], unfollowed := true, recurses := true, apart := false }
def FnExactMergeSitesSaid : Prop := fnExactMergeSitesRow.holds Try.pinned (OpenSpec.ofChange fnExactMergeSitesSpec)

/-- ITS FALSE NEIGHBOUR: 'it returns false'. Refute it at one input. -/
def fnExactMergeSitesWrong : ChangeSpec := { name := "fnExactMergeSites", fn := fun _ => fun
  | [d1, d2, d3] => { results := [.lit (.bool false)], args := [d1, d2, d3] }
  | _ => none }
def FnExactMergeSitesWrongFalsely : Prop := fnExactMergeSitesRow.holds Try.pinned (OpenSpec.ofChange fnExactMergeSitesWrong)

/-- 'laws.FnExactBlackOf': WHATEVER THE INPUT: true; the input reads as it did. -/
def fnExactBlackOfSpec : ChangeSpec := { name := "fnExactBlackOf", fn := fun _ => fun
  | [d] => { results := [.lit (.bool true)], args := [d] }
  | _ => none }
def fnExactBlackOfRow : OpenClaim := { program := "yticlknijmnddeaa", sum := "9d36820320ab9e7b8cc0205caefb6a4e1a62cb1fbad7020d7d868dd84411e1c0", func := "loop.example/g00094/laws.FnExactBlackOf", spec := "fnExactBlackOf", apart := false }
def FnExactBlackOfSaid : Prop := fnExactBlackOfRow.holds Try.pinned (OpenSpec.ofChange fnExactBlackOfSpec)

/-- ITS FALSE NEIGHBOUR: 'it returns false'. Refute it at one input. -/
def fnExactBlackOfWrong : ChangeSpec := { name := "fnExactBlackOf", fn := fun _ => fun
  | [d] => { results := [.lit (.bool false)], args := [d] }
  | _ => none }
def FnExactBlackOfWrongFalsely : Prop := fnExactBlackOfRow.holds Try.pinned (OpenSpec.ofChange fnExactBlackOfWrong)

/- THE SECOND FORM. 'bulk': how many values and letters a reading holds, each counted each time it is reached (what is shared counts as often as it is met; a slice's spare places count too). A statement '..UptoSaid' is the law's where the arguments, and the package variables that the reading takes, are together of bulk at most 1048576: NARROWER than '..Said'. Prove '..Said' where nothing that the law and all that it calls make is longer than what came in: it says more and counts as full. Else prove '..UptoSaid'. A law counts once. -/
mutual
def uptoBulk {H : Type} : DataW H → Nat
  | .lit (.string bytes) => bytes.length + 1
  | .lit _ => 1
  | .nil => 1
  | .ptr d => uptoBulk d + 1
  | .slice elems spare => uptoBulkAll elems + uptoBulkAll spare + 1
  | .agg parts => uptoBulkAll parts + 1
  | .iface _ d => uptoBulk d + 1
  | .map entries => uptoBulkEntries entries + 1
  | .held _ => 1
def uptoBulkAll {H : Type} : List (DataW H) → Nat
  | [] => 0
  | d :: r => uptoBulk d + uptoBulkAll r
def uptoBulkEntries {H : Type} : List (Lit × DataW H) → Nat
  | [] => 0
  | x :: r => uptoBulkEntry x + uptoBulkEntries r
def uptoBulkEntry {H : Type} : Lit × DataW H → Nat
  | (.string bytes, d) => bytes.length + uptoBulk d + 1
  | (_, d) => uptoBulk d + 1
 end
def uptoSmall : (H : Type) → List (DataW H) → Bool := fun _ ds => decide (uptoBulkAll ds ≤ 1048576)
def OpenSpec.upto (s : _root_.Go.ChangeSpec) : _root_.Go.OpenSpec := { _root_.Go.OpenSpec.ofChange s with cond := some uptoSmall }

/-- 'laws.FnExactLoad', WHERE WHAT IT READS IS OF BULK AT MOST 1048576: true; the input reads as it did. -/
def fnExactLoadUptoRow : OpenClaim := { program := "yticlknijmnddeaa", sum := "9d36820320ab9e7b8cc0205caefb6a4e1a62cb1fbad7020d7d868dd84411e1c0", func := "loop.example/g00094/laws.FnExactLoad", spec := "fnExactLoad", unfollowed := true, recurses := true, apart := false, narrowed := true }
def FnExactLoadUptoSaid : Prop := fnExactLoadUptoRow.holds Try.pinned (OpenSpec.upto fnExactLoadSpec)

/-- 'laws.FnExactCut', WHERE WHAT IT READS IS OF BULK AT MOST 1048576: true; the input reads as it did. -/
def fnExactCutUptoRow : OpenClaim := { program := "yticlknijmnddeaa", sum := "9d36820320ab9e7b8cc0205caefb6a4e1a62cb1fbad7020d7d868dd84411e1c0", func := "loop.example/g00094/laws.FnExactCut", spec := "fnExactCut", unfollowed := true, recurses := true, apart := false, narrowed := true }
def FnExactCutUptoSaid : Prop := fnExactCutUptoRow.holds Try.pinned (OpenSpec.upto fnExactCutSpec)

/-- 'laws.FnExactVmOk', WHERE WHAT IT READS IS OF BULK AT MOST 1048576: true; the input reads as it did. -/
def fnExactVmOkUptoRow : OpenClaim := { program := "yticlknijmnddeaa", sum := "9d36820320ab9e7b8cc0205caefb6a4e1a62cb1fbad7020d7d868dd84411e1c0", func := "loop.example/g00094/laws.FnExactVmOk", spec := "fnExactVmOk", unfollowed := true, recurses := true, apart := false, narrowed := true }
def FnExactVmOkUptoSaid : Prop := fnExactVmOkUptoRow.holds Try.pinned (OpenSpec.upto fnExactVmOkSpec)

/-- 'laws.FnExactMergeSites', WHERE WHAT IT READS IS OF BULK AT MOST 1048576: true; the input reads as it did. -/
def fnExactMergeSitesUptoRow : OpenClaim := { program := "yticlknijmnddeaa", sum := "9d36820320ab9e7b8cc0205caefb6a4e1a62cb1fbad7020d7d868dd84411e1c0", func := "loop.example/g00094/laws.FnExactMergeSites", spec := "fnExactMergeSites", inPlace := ["slices.overlaps[loop.example/g00094/impl.Site]"], unfollowed := true, recurses := true, apart := false, narrowed := true }
def FnExactMergeSitesUptoSaid : Prop := fnExactMergeSitesUptoRow.holds Try.pinned (OpenSpec.upto fnExactMergeSitesSpec)

/-- 'laws.FnExactBlackOf', WHERE WHAT IT READS IS OF BULK AT MOST 1048576: true; the input reads as it did. -/
def fnExactBlackOfUptoRow : OpenClaim := { program := "yticlknijmnddeaa", sum := "9d36820320ab9e7b8cc0205caefb6a4e1a62cb1fbad7020d7d868dd84411e1c0", func := "loop.example/g00094/laws.FnExactBlackOf", spec := "fnExactBlackOf", apart := false, narrowed := true }
def FnExactBlackOfUptoSaid : Prop := fnExactBlackOfUptoRow.holds Try.pinned (OpenSpec.upto fnExactBlackOfSpec)

end Rows
end Go.Proofs.Yticlknijmnddeaa
