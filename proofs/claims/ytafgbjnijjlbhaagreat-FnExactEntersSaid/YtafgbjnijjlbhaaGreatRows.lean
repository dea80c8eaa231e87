/-
  No cell of these rows narrows 'for every input' (looked for: loops, veiled, ifaces, maps, wideKeys, modest, calm, conditions, laid).
  DERIVED. THE GIVEN ROWS OF THIS SEAT. 9 by the template 'for every input the law returns true; each argument reads behind the call as it read before'; 0 by the template 'total and deterministic' (their statements: YtafgbjnijjlbhaaGreatTotals.lean).
  GIVEN WITH THE SEED: the statements are not yours to turn. If you find one false, say at which input.
  Laid BY PROGRAM, IN A SANDBOX (cutbox-rows.mjs): the forced cells as the released guide's own fill.sh prints them over the translation 187c085360a8a30d… (all of the seat's roots in one cut). By AI agents, Wed Nov 11 2026. No macro, syntax, notation, axiom, sorry.
-/
import Derived.Test.YtafgbjnijjlbhaaGreatChecked
import GoSem.Claim
import GoSem.ClaimJoined
import GoSem.ClaimMapViews
import Derived.JoinedTies
import Derived.KernelRfl
namespace Go.Proofs.YtafgbjnijjlbhaaGreat
/- THE CELL 'sum', in the pinned program and in every row, IS THE sha256 OF THE DUMP (.gsa) THAT YtafgbjnijjlbhaaGreatProg.lean LOADS. Nothing in Lean hashes anything: it is a label: what it is worth is what the hold of that sum in a sandbox is worth. -/
noncomputable def Tryz.pinned : Pinned := { name := "ytafgbjnijjlbhaagreat", sum := "187c085360a8a30d3f812bf6508b18b56aa816b106d69c7de4a05146505ce66d", checked := Tryz.checked }
namespace Rows
def none {H : Type} : Left H := { results := [], args := [] }

/-- 'laws.FnExactFastOk': WHATEVER THE INPUT: true; the input reads as it did. -/
def fnExactFastOkSpec : ChangeSpec := { name := "fnExactFastOk", fn := fun _ => fun
  | [d1, d2] => { results := [.lit (.bool true)], args := [d1, d2] }
  | _ => none }
def fnExactFastOkRow : OpenClaim := { program := "ytafgbjnijjlbhaagreat", sum := "187c085360a8a30d3f812bf6508b18b56aa816b106d69c7de4a05146505ce66d", func := "loop.example/g00094/laws.FnExactFastOk", spec := "fnExactFastOk", unfollowed := true, recurses := true, plainKeys := false, apart := false }
def FnExactFastOkSaid : Prop := fnExactFastOkRow.holds Tryz.pinned (OpenSpec.ofChange fnExactFastOkSpec)

/-- ITS FALSE NEIGHBOUR: 'it returns false'. Refute it at one input. -/
def fnExactFastOkWrong : ChangeSpec := { name := "fnExactFastOk", fn := fun _ => fun
  | [d1, d2] => { results := [.lit (.bool false)], args := [d1, d2] }
  | _ => none }
def FnExactFastOkWrongFalsely : Prop := fnExactFastOkRow.holds Tryz.pinned (OpenSpec.ofChange fnExactFastOkWrong)

/-- 'laws.FnExactCountOps': WHATEVER THE INPUT: true; the input reads as it did. -/
def fnExactCountOpsSpec : ChangeSpec := { name := "fnExactCountOps", fn := fun _ => fun
  | [d1, d2] => { results := [.lit (.bool true)], args := [d1, d2] }
  | _ => none }
def fnExactCountOpsRow : OpenClaim := { program := "ytafgbjnijjlbhaagreat", sum := "187c085360a8a30d3f812bf6508b18b56aa816b106d69c7de4a05146505ce66d", func := "loop.example/g00094/laws.FnExactCountOps", spec := "fnExactCountOps", unfollowed := true, recurses := true, plainKeys := false, apart := false }
def FnExactCountOpsSaid : Prop := fnExactCountOpsRow.holds Tryz.pinned (OpenSpec.ofChange fnExactCountOpsSpec)

/-- ITS FALSE NEIGHBOUR: 'it returns false'. Refute it at one input. -/
def fnExactCountOpsWrong : ChangeSpec := { name := "fnExactCountOps", fn := fun _ => fun
  | [d1, d2] => { results := [.lit (.bool false)], args := [d1, d2] }
  | _ => none }
def FnExactCountOpsWrongFalsely : Prop := fnExactCountOpsRow.holds Tryz.pinned (OpenSpec.ofChange fnExactCountOpsWrong)

/-- 'laws.FnExactOpsAt': WHATEVER THE INPUT: true; the input reads as it did. -/
def fnExactOpsAtSpec : ChangeSpec := { name := "fnExactOpsAt", fn := fun _ => fun
  | [d1, d2, d3, d4] => { results := [.lit (.bool true)], args := [d1, d2, d3, d4] }
  | _ => none }
def fnExactOpsAtRow : OpenClaim := { program := "ytafgbjnijjlbhaagreat", sum := "187c085360a8a30d3f812bf6508b18b56aa816b106d69c7de4a05146505ce66d", func := "loop.example/g00094/laws.FnExactOpsAt", spec := "fnExactOpsAt", unfollowed := true, recurses := true, plainKeys := false, apart := false }
def FnExactOpsAtSaid : Prop := fnExactOpsAtRow.holds Tryz.pinned (OpenSpec.ofChange fnExactOpsAtSpec)

/-- ITS FALSE NEIGHBOUR: 'it returns false'. Refute it at one input. -/
def fnExactOpsAtWrong : ChangeSpec := { name := "fnExactOpsAt", fn := fun _ => fun
  | [d1, d2, d3, d4] => { results := [.lit (.bool false)], args := [d1, d2, d3, d4] }
  | _ => none }
def FnExactOpsAtWrongFalsely : Prop := fnExactOpsAtRow.holds Tryz.pinned (OpenSpec.ofChange fnExactOpsAtWrong)

/-- 'laws.FnExactLaidOf': WHATEVER THE INPUT: true; the input reads as it did. -/
def fnExactLaidOfSpec : ChangeSpec := { name := "fnExactLaidOf", fn := fun _ => fun
  | [d1, d2] => { results := [.lit (.bool true)], args := [d1, d2] }
  | _ => none }
def fnExactLaidOfRow : OpenClaim := { program := "ytafgbjnijjlbhaagreat", sum := "187c085360a8a30d3f812bf6508b18b56aa816b106d69c7de4a05146505ce66d", func := "loop.example/g00094/laws.FnExactLaidOf", spec := "fnExactLaidOf", unfollowed := true, recurses := true, plainKeys := false, apart := false }
def FnExactLaidOfSaid : Prop := fnExactLaidOfRow.holds Tryz.pinned (OpenSpec.ofChange fnExactLaidOfSpec)

/-- ITS FALSE NEIGHBOUR: 'it returns false'. Refute it at one input. -/
def fnExactLaidOfWrong : ChangeSpec := { name := "fnExactLaidOf", fn := fun _ => fun
  | [d1, d2] => { results := [.lit (.bool false)], args := [d1, d2] }
  | _ => none }
def FnExactLaidOfWrongFalsely : Prop := fnExactLaidOfRow.holds Tryz.pinned (OpenSpec.ofChange fnExactLaidOfWrong)

/-- 'laws.FnExactSpecsOf': WHATEVER THE INPUT: true; the input reads as it did. -/
def fnExactSpecsOfSpec : ChangeSpec := { name := "fnExactSpecsOf", fn := fun _ => fun
  | [d1, d2] => { results := [.lit (.bool true)], args := [d1, d2] }
  | _ => none }
def fnExactSpecsOfRow : OpenClaim := { program := "ytafgbjnijjlbhaagreat", sum := "187c085360a8a30d3f812bf6508b18b56aa816b106d69c7de4a05146505ce66d", func := "loop.example/g00094/laws.FnExactSpecsOf", spec := "fnExactSpecsOf", unfollowed := true, recurses := true, plainKeys := false, apart := false }
def FnExactSpecsOfSaid : Prop := fnExactSpecsOfRow.holds Tryz.pinned (OpenSpec.ofChange fnExactSpecsOfSpec)

/-- ITS FALSE NEIGHBOUR: 'it returns false'. Refute it at one input. -/
def fnExactSpecsOfWrong : ChangeSpec := { name := "fnExactSpecsOf", fn := fun _ => fun
  | [d1, d2] => { results := [.lit (.bool false)], args := [d1, d2] }
  | _ => none }
def FnExactSpecsOfWrongFalsely : Prop := fnExactSpecsOfRow.holds Tryz.pinned (OpenSpec.ofChange fnExactSpecsOfWrong)

/-- 'laws.FnExactIdleOps': WHATEVER THE INPUT: true; the input reads as it did. -/
def fnExactIdleOpsSpec : ChangeSpec := { name := "fnExactIdleOps", fn := fun _ => fun
  | [d1, d2] => { results := [.lit (.bool true)], args := [d1, d2] }
  | _ => none }
def fnExactIdleOpsRow : OpenClaim := { program := "ytafgbjnijjlbhaagreat", sum := "187c085360a8a30d3f812bf6508b18b56aa816b106d69c7de4a05146505ce66d", func := "loop.example/g00094/laws.FnExactIdleOps", spec := "fnExactIdleOps", unfollowed := true, recurses := true, plainKeys := false, apart := false }
def FnExactIdleOpsSaid : Prop := fnExactIdleOpsRow.holds Tryz.pinned (OpenSpec.ofChange fnExactIdleOpsSpec)

/-- ITS FALSE NEIGHBOUR: 'it returns false'. Refute it at one input. -/
def fnExactIdleOpsWrong : ChangeSpec := { name := "fnExactIdleOps", fn := fun _ => fun
  | [d1, d2] => { results := [.lit (.bool false)], args := [d1, d2] }
  | _ => none }
def FnExactIdleOpsWrongFalsely : Prop := fnExactIdleOpsRow.holds Tryz.pinned (OpenSpec.ofChange fnExactIdleOpsWrong)

/-- 'laws.FnExactEnters': WHATEVER THE INPUT: true; the input reads as it did. -/
def fnExactEntersSpec : ChangeSpec := { name := "fnExactEnters", fn := fun _ => fun
  | [d1, d2, d3] => { results := [.lit (.bool true)], args := [d1, d2, d3] }
  | _ => none }
def fnExactEntersRow : OpenClaim := { program := "ytafgbjnijjlbhaagreat", sum := "187c085360a8a30d3f812bf6508b18b56aa816b106d69c7de4a05146505ce66d", func := "loop.example/g00094/laws.FnExactEnters", spec := "fnExactEnters", unfollowed := true, recurses := true, plainKeys := false, apart := false }
def FnExactEntersSaid : Prop := fnExactEntersRow.holds Tryz.pinned (OpenSpec.ofChange fnExactEntersSpec)

/-- ITS FALSE NEIGHBOUR: 'it returns false'. Refute it at one input. -/
def fnExactEntersWrong : ChangeSpec := { name := "fnExactEnters", fn := fun _ => fun
  | [d1, d2, d3] => { results := [.lit (.bool false)], args := [d1, d2, d3] }
  | _ => none }
def FnExactEntersWrongFalsely : Prop := fnExactEntersRow.holds Tryz.pinned (OpenSpec.ofChange fnExactEntersWrong)

/-- 'laws.FnExactExitHolds': WHATEVER THE INPUT: true; the input reads as it did. -/
def fnExactExitHoldsSpec : ChangeSpec := { name := "fnExactExitHolds", fn := fun _ => fun
  | [d1, d2, d3, d4] => { results := [.lit (.bool true)], args := [d1, d2, d3, d4] }
  | _ => none }
def fnExactExitHoldsRow : OpenClaim := { program := "ytafgbjnijjlbhaagreat", sum := "187c085360a8a30d3f812bf6508b18b56aa816b106d69c7de4a05146505ce66d", func := "loop.example/g00094/laws.FnExactExitHolds", spec := "fnExactExitHolds", unfollowed := true, recurses := true, plainKeys := false, apart := false }
def FnExactExitHoldsSaid : Prop := fnExactExitHoldsRow.holds Tryz.pinned (OpenSpec.ofChange fnExactExitHoldsSpec)

/-- ITS FALSE NEIGHBOUR: 'it returns false'. Refute it at one input. -/
def fnExactExitHoldsWrong : ChangeSpec := { name := "fnExactExitHolds", fn := fun _ => fun
  | [d1, d2, d3, d4] => { results := [.lit (.bool false)], args := [d1, d2, d3, d4] }
  | _ => none }
def FnExactExitHoldsWrongFalsely : Prop := fnExactExitHoldsRow.holds Tryz.pinned (OpenSpec.ofChange fnExactExitHoldsWrong)

/-- 'laws.FnExactTierOk': WHATEVER THE INPUT: true; the input reads as it did. -/
def fnExactTierOkSpec : ChangeSpec := { name := "fnExactTierOk", fn := fun _ => fun
  | [d1, d2] => { results := [.lit (.bool true)], args := [d1, d2] }
  | _ => none }
def fnExactTierOkRow : OpenClaim := { program := "ytafgbjnijjlbhaagreat", sum := "187c085360a8a30d3f812bf6508b18b56aa816b106d69c7de4a05146505ce66d", func := "loop.example/g00094/laws.FnExactTierOk", spec := "fnExactTierOk", unfollowed := true, recurses := true, plainKeys := false, apart := false }
def FnExactTierOkSaid : Prop := fnExactTierOkRow.holds Tryz.pinned (OpenSpec.ofChange fnExactTierOkSpec)

/-- ITS FALSE NEIGHBOUR: 'it returns false'. Refute it at one input. -/
def fnExactTierOkWrong : ChangeSpec := { name := "fnExactTierOk", fn := fun _ => fun
  | [d1, d2] => { results := [.lit (.bool false)], args := [d1, d2] }
  | _ => none }
def FnExactTierOkWrongFalsely : Prop := fnExactTierOkRow.holds Tryz.pinned (OpenSpec.ofChange fnExactTierOkWrong)

/- THE SECOND FORM. 'bulk': how many values and letters a reading holds, each counted each time it is reached (what is shared counts as often as it is met; a slice's spare places count too). A statement '..UptoSaid' is the law's where the arguments, and the package variables that the reading takes, are together of bulk at most 1048576: NARROWER than '..Said'. Prove '..Said' where nothing that the law and all that it calls make is longer than what came in: it says more and counts as full. Else prove '..UptoSaid'. A law counts once. -/
mutual
def uptoBulk {H : Type} : DataW H → Nat
  | .lit (.string bytes) => bytes.length + 1
  | .lit _ => 1
  | .nil => 1
  | .ptr d => uptoBulk d + 1
  | .slice elems spare => uptoBulkAll elems + uptoBulkAll spare + 1
  | .agg parts => uptoBulkAll parts + 1
  | .iface _ d => uptoBulk d + 1
  | .map entries => uptoBulkEntries entries + 1
  | .held _ => 1
def uptoBulkAll {H : Type} : List (DataW H) → Nat
  | [] => 0
  | d :: r => uptoBulk d + uptoBulkAll r
def uptoBulkEntries {H : Type} : List (Lit × DataW H) → Nat
  | [] => 0
  | x :: r => uptoBulkEntry x + uptoBulkEntries r
def uptoBulkEntry {H : Type} : Lit × DataW H → Nat
  | (.string bytes, d) => bytes.length + uptoBulk d + 1
  | (_, d) => uptoBulk d + 1
 end
def uptoSmall : (H : Type) → List (DataW H) → Bool := fun _ ds => decide (uptoBulkAll ds ≤ 1048576)
def OpenSpec.upto (s : _root_.Go.ChangeSpec) : _root_.Go.OpenSpec := { _root_.Go.OpenSpec.ofChange s with cond := some uptoSmall }

/-- 'laws.FnExactFastOk', WHERE WHAT IT READS IS OF BULK AT MOST 1048576: true; the input reads as it did. -/
def fnExactFastOkUptoRow : OpenClaim := { program := "ytafgbjnijjlbhaagreat", sum := "187c085360a8a30d3f812bf6508b18b56aa816b106d69c7de4a05146505ce66d", func := "loop.example/g00094/laws.FnExactFastOk", spec := "fnExactFastOk", unfollowed := true, recurses := true, plainKeys := false, apart := false, narrowed := true }
def FnExactFastOkUptoSaid : Prop := fnExactFastOkUptoRow.holds Tryz.pinned (OpenSpec.upto fnExactFastOkSpec)

/-- 'laws.FnExactCountOps', WHERE WHAT IT READS IS OF BULK AT MOST 1048576: true; the input reads as it did. -/
def fnExactCountOpsUptoRow : OpenClaim := { program := "ytafgbjnijjlbhaagreat", sum := "187c085360a8a30d3f812bf6508b18b56aa816b106d69c7de4a05146505ce66d", func := "loop.example/g00094/laws.FnExactCountOps", spec := "fnExactCountOps", unfollowed := true, recurses := true, plainKeys := false, apart := false, narrowed := true }
def FnExactCountOpsUptoSaid : Prop := fnExactCountOpsUptoRow.holds Tryz.pinned (OpenSpec.upto fnExactCountOpsSpec)

/-- 'laws.FnExactOpsAt', WHERE WHAT IT READS IS OF BULK AT MOST 1048576: true; the input reads as it did. -/
def fnExactOpsAtUptoRow : OpenClaim := { program := "ytafgbjnijjlbhaagreat", sum := "187c085360a8a30d3f812bf6508b18b56aa816b106d69c7de4a05146505ce66d", func := "loop.example/g00094/laws.FnExactOpsAt", spec := "fnExactOpsAt", unfollowed := true, recurses := true, plainKeys := false, apart := false, narrowed := true }
def FnExactOpsAtUptoSaid : Prop := fnExactOpsAtUptoRow.holds Tryz.pinned (OpenSpec.upto fnExactOpsAtSpec)

/-- 'laws.FnExactLaidOf', WHERE WHAT IT READS IS OF BULK AT MOST 1048576: true; the input reads as it did. -/
def fnExactLaidOfUptoRow : OpenClaim := { program := "ytafgbjnijjlbhaagreat", sum := "187c085360a8a30d3f812bf6508b18b56aa816b106d69c7de4a05146505ce66d", func := "loop.example/g00094/laws.FnExactLaidOf", spec := "fnExactLaidOf", unfollowed := true, recurses := true, plainKeys := false, apart := false, narrowed := true }
def FnExactLaidOfUptoSaid : Prop := fnExactLaidOfUptoRow.holds Tryz.pinned (OpenSpec.upto fnExactLaidOfSpec)

/-- 'laws.FnExactSpecsOf', WHERE WHAT IT READS IS OF BULK AT MOST 1048576: true; the input reads as it did. -/
def fnExactSpecsOfUptoRow : OpenClaim := { program := "ytafgbjnijjlbhaagreat", sum := "187c085360a8a30d3f812bf6508b18b56aa816b106d69c7de4a05146505ce66d", func := "loop.example/g00094/laws.FnExactSpecsOf", spec := "fnExactSpecsOf", unfollowed := true, recurses := true, plainKeys := false, apart := false, narrowed := true }
def FnExactSpecsOfUptoSaid : Prop := fnExactSpecsOfUptoRow.holds Tryz.pinned (OpenSpec.upto fnExactSpecsOfSpec)

/-- 'laws.FnExactIdleOps', WHERE WHAT IT READS IS OF BULK AT MOST 1048576: true; the input reads as it did. -/
def fnExactIdleOpsUptoRow : OpenClaim := { program := "ytafgbjnijjlbhaagreat", sum := "187c085360a8a30d3f812bf6508b18b56aa816b106d69c7de4a05146505ce66d", func := "loop.example/g00094/laws.FnExactIdleOps", spec := "fnExactIdleOps", unfollowed := true, recurses := true, plainKeys := false, apart := false, narrowed := true }
def FnExactIdleOpsUptoSaid : Prop := fnExactIdleOpsUptoRow.holds Tryz.pinned (OpenSpec.upto fnExactIdleOpsSpec)

/-- 'laws.FnExactEnters', WHERE WHAT IT READS IS OF BULK AT MOST 1048576: true; the input reads as it did. -/
def fnExactEntersUptoRow : OpenClaim := { program := "ytafgbjnijjlbhaagreat", sum := "187c085360a8a30d3f812bf6508b18b56aa816b106d69c7de4a05146505ce66d", func := "loop.example/g00094/laws.FnExactEnters", spec := "fnExactEnters", unfollowed := true, recurses := true, plainKeys := false, apart := false, narrowed := true }
def FnExactEntersUptoSaid : Prop := fnExactEntersUptoRow.holds Tryz.pinned (OpenSpec.upto fnExactEntersSpec)

/-- 'laws.FnExactExitHolds', WHERE WHAT IT READS IS OF BULK AT MOST 1048576: true; the input reads as it did. -/
def fnExactExitHoldsUptoRow : OpenClaim := { program := "ytafgbjnijjlbhaagreat", sum := "187c085360a8a30d3f812bf6508b18b56aa816b106d69c7de4a05146505ce66d", func := "loop.example/g00094/laws.FnExactExitHolds", spec := "fnExactExitHolds", unfollowed := true, recurses := true, plainKeys := false, apart := false, narrowed := true }
def FnExactExitHoldsUptoSaid : Prop := fnExactExitHoldsUptoRow.holds Tryz.pinned (OpenSpec.upto fnExactExitHoldsSpec)

/-- 'laws.FnExactTierOk', WHERE WHAT IT READS IS OF BULK AT MOST 1048576: true; the input reads as it did. -/
def fnExactTierOkUptoRow : OpenClaim := { program := "ytafgbjnijjlbhaagreat", sum := "187c085360a8a30d3f812bf6508b18b56aa816b106d69c7de4a05146505ce66d", func := "loop.example/g00094/laws.FnExactTierOk", spec := "fnExactTierOk", unfollowed := true, recurses := true, plainKeys := false, apart := false, narrowed := true }
def FnExactTierOkUptoSaid : Prop := fnExactTierOkUptoRow.holds Tryz.pinned (OpenSpec.upto fnExactTierOkSpec)

end Rows
end Go.Proofs.YtafgbjnijjlbhaaGreat
