/-
  No cell of these rows narrows 'for every input' (looked for: loops, veiled, ifaces, maps, wideKeys, modest, calm, conditions, laid).
  DERIVED. THE GIVEN ROWS OF THIS SEAT. 7 by the template 'for every input the law returns true; each argument reads behind the call as it read before'; 0 by the template 'total and deterministic' (their statements: YteoibjacgnmnpaaTotals.lean).
  GIVEN WITH THE SEED: the statements are not yours to turn. If you find one false, say at which input.
  Laid BY PROGRAM, IN A SANDBOX (cutbox-rows.mjs): the forced cells as the released guide's own fill.sh prints them over the translation 383e98414d415e80… (all of the seat's roots in one cut). By AI agents, Wed Nov 11 2026. No macro, syntax, notation, axiom, sorry.
-/
import Derived.Test.YteoibjacgnmnpaaChecked
import GoSem.Claim
import GoSem.ClaimJoined
import GoSem.ClaimMapViews
import Derived.JoinedTies
import Derived.KernelRfl
namespace Go.Proofs.Yteoibjacgnmnpaa
/- THE CELL 'sum', in the pinned program and in every row, IS THE sha256 OF THE DUMP (.gsa) THAT YteoibjacgnmnpaaProg.lean LOADS. Nothing in Lean hashes anything: it is a label: what it is worth is what the hold of that sum in a sandbox is worth. -/
noncomputable def Try.pinned : Pinned := { name := "yteoibjacgnmnpaa", sum := "383e98414d415e8026d35da985f895a0865600dbf9dfc904d721cdc6b6618475", checked := Try.checked }
namespace Rows
def none {H : Type} : Left H := { results := [], args := [] }

/-- 'laws.FnSums': WHATEVER THE INPUT: true; the input reads as it did. -/
def fnSumsSpec : ChangeSpec := { name := "fnSums", fn := fun _ => fun
  | [d] => { results := [.lit (.bool true)], args := [d] }
  | _ => none }
def fnSumsRow : OpenClaim := { program := "yteoibjacgnmnpaa", sum := "383e98414d415e8026d35da985f895a0865600dbf9dfc904d721cdc6b6618475", func := "loop.example/g00094/laws.FnSums", spec := "fnSums", unfollowed := true, recurses := true, apart := false }
def FnSumsSaid : Prop := fnSumsRow.holds Try.pinned (OpenSpec.ofChange fnSumsSpec)

/-- ITS FALSE NEIGHBOUR: 'it returns false'. Refute it at one input. -/
def fnSumsWrong : ChangeSpec := { name := "fnSums", fn := fun _ => fun
  | [d] => { results := [.lit (.bool false)], args := [d] }
  | _ => none }
def FnSumsWrongFalsely : Prop := fnSumsRow.holds Try.pinned (OpenSpec.ofChange fnSumsWrong)

/-- 'laws.FnExactLoad': WHATEVER THE INPUT: true; the input reads as it did. -/
def fnExactLoadSpec : ChangeSpec := { name := "fnExactLoad", fn := fun _ => fun
  | [d] => { results := [.lit (.bool true)], args := [d] }
  | _ => none }
def fnExactLoadRow : OpenClaim := { program := "yteoibjacgnmnpaa", sum := "383e98414d415e8026d35da985f895a0865600dbf9dfc904d721cdc6b6618475", func := "loop.example/g00094/laws.FnExactLoad", spec := "fnExactLoad", unfollowed := true, recurses := true, apart := false }
def FnExactLoadSaid : Prop := fnExactLoadRow.holds Try.pinned (OpenSpec.ofChange fnExactLoadSpec)

/-- ITS FALSE NEIGHBOUR: 'it returns false'. Refute it at one input. -/
def fnExactLoadWrong : ChangeSpec := { name := "fnExactLoad", fn := fun _ => fun
  | [d] => { results := [.lit (.bool false)], args := [d] }
  | _ => none }
def FnExactLoadWrongFalsely : Prop := fnExactLoadRow.holds Try.pinned (OpenSpec.ofChange fnExactLoadWrong)

/-- 'laws.FnExactProfileOk': WHATEVER THE INPUT: true; the input reads as it did. -/
def fnExactProfileOkSpec : ChangeSpec := { name := "fnExactProfileOk", fn := fun _ => fun
  | [d1, d2] => { results := [.lit (.bool true)], args := [d1, d2] }
  | _ => none }
def fnExactProfileOkRow : OpenClaim := { program := "yteoibjacgnmnpaa", sum := "383e98414d415e8026d35da985f895a0865600dbf9dfc904d721cdc6b6618475", func := "loop.example/g00094/laws.FnExactProfileOk", spec := "fnExactProfileOk", unfollowed := true, recurses := true, apart := false }
def FnExactProfileOkSaid : Prop := fnExactProfileOkRow.holds Try.pinned (OpenSpec.ofChange fnExactProfileOkSpec)

/-- ITS FALSE NEIGHBOUR: 'it returns false'. Refute it at one input. -/
def fnExactProfileOkWrong : ChangeSpec := { name := "fnExactProfileOk", fn := fun _ => fun
  | [d1, d2] => { results := [.lit (.bool false)], args := [d1, d2] }
  | _ => none }
def FnExactProfileOkWrongFalsely : Prop := fnExactProfileOkRow.holds Try.pinned (OpenSpec.ofChange fnExactProfileOkWrong)

/-- 'laws.FnExactThread': WHATEVER THE INPUT: true; the input reads as it did. -/
def fnExactThreadSpec : ChangeSpec := { name := "fnExactThread", fn := fun _ => fun
  | [d] => { results := [.lit (.bool true)], args := [d] }
  | _ => none }
def fnExactThreadRow : OpenClaim := { program := "yteoibjacgnmnpaa", sum := "383e98414d415e8026d35da985f895a0865600dbf9dfc904d721cdc6b6618475", func := "loop.example/g00094/laws.FnExactThread", spec := "fnExactThread", unfollowed := true, recurses := true, apart := false }
def FnExactThreadSaid : Prop := fnExactThreadRow.holds Try.pinned (OpenSpec.ofChange fnExactThreadSpec)

/-- ITS FALSE NEIGHBOUR: 'it returns false'. Refute it at one input. -/
def fnExactThreadWrong : ChangeSpec := { name := "fnExactThread", fn := fun _ => fun
  | [d] => { results := [.lit (.bool false)], args := [d] }
  | _ => none }
def FnExactThreadWrongFalsely : Prop := fnExactThreadRow.holds Try.pinned (OpenSpec.ofChange fnExactThreadWrong)

/-- 'laws.FnExactPlanOk': WHATEVER THE INPUT: true; the input reads as it did. -/
def fnExactPlanOkSpec : ChangeSpec := { name := "fnExactPlanOk", fn := fun _ => fun
  | [d1, d2] => { results := [.lit (.bool true)], args := [d1, d2] }
  | _ => none }
def fnExactPlanOkRow : OpenClaim := { program := "yteoibjacgnmnpaa", sum := "383e98414d415e8026d35da985f895a0865600dbf9dfc904d721cdc6b6618475", func := "loop.example/g00094/laws.FnExactPlanOk", spec := "fnExactPlanOk", unfollowed := true, recurses := true, apart := false }
def FnExactPlanOkSaid : Prop := fnExactPlanOkRow.holds Try.pinned (OpenSpec.ofChange fnExactPlanOkSpec)

/-- ITS FALSE NEIGHBOUR: 'it returns false'. Refute it at one input. -/
def fnExactPlanOkWrong : ChangeSpec := { name := "fnExactPlanOk", fn := fun _ => fun
  | [d1, d2] => { results := [.lit (.bool false)], args := [d1, d2] }
  | _ => none }
def FnExactPlanOkWrongFalsely : Prop := fnExactPlanOkRow.holds Try.pinned (OpenSpec.ofChange fnExactPlanOkWrong)

/-- 'laws.FnExactCut': WHATEVER THE INPUT: true; the input reads as it did. -/
def fnExactCutSpec : ChangeSpec := { name := "fnExactCut", fn := fun _ => fun
  | [d] => { results := [.lit (.bool true)], args := [d] }
  | _ => none }
def fnExactCutRow : OpenClaim := { program := "yteoibjacgnmnpaa", sum := "383e98414d415e8026d35da985f895a0865600dbf9dfc904d721cdc6b6618475", func := "loop.example/g00094/laws.FnExactCut", spec := "fnExactCut", unfollowed := true, recurses := true, apart := false }
def FnExactCutSaid : Prop := fnExactCutRow.holds Try.pinned (OpenSpec.ofChange fnExactCutSpec)

/-- ITS FALSE NEIGHBOUR: 'it returns false'. Refute it at one input. -/
def fnExactCutWrong : ChangeSpec := { name := "fnExactCut", fn := fun _ => fun
  | [d] => { results := [.lit (.bool false)], args := [d] }
  | _ => none }
def FnExactCutWrongFalsely : Prop := fnExactCutRow.holds Try.pinned (OpenSpec.ofChange fnExactCutWrong)

/-- 'laws.FnExactStart': WHATEVER THE INPUT: true; the input reads as it did. -/
def fnExactStartSpec : ChangeSpec := { name := "fnExactStart", fn := fun _ => fun
  | [d1, d2] => { results := [.lit (.bool true)], args := [d1, d2] }
  | _ => none }
def fnExactStartRow : OpenClaim := { program := "yteoibjacgnmnpaa", sum := "383e98414d415e8026d35da985f895a0865600dbf9dfc904d721cdc6b6618475", func := "loop.example/g00094/laws.FnExactStart", spec := "fnExactStart", unfollowed := true, recurses := true, apart := false }
def FnExactStartSaid : Prop := fnExactStartRow.holds Try.pinned (OpenSpec.ofChange fnExactStartSpec)

/-- ITS FALSE NEIGHBOUR: 'it returns false'. Refute it at one input. -/
def fnExactStartWrong : ChangeSpec := { name := "fnExactStart", fn := fun _ => fun
  | [d1, d2] => { results := [.lit (.bool false)], args := [d1, d2] }
  | _ => none }
def FnExactStartWrongFalsely : Prop := fnExactStartRow.holds Try.pinned (OpenSpec.ofChange fnExactStartWrong)

/- THE SECOND FORM. 'bulk': how many values and letters a reading holds, each counted each time it is reached (what is shared counts as often as it is met; a slice's spare places count too). A statement '..UptoSaid' is the law's where the arguments, and the package variables that the reading takes, are together of bulk at most 1048576: NARROWER than '..Said'. Prove '..Said' where nothing that the law and all that it calls make is longer than what came in: it says more and counts as full. Else prove '..UptoSaid'. A law counts once. -/
mutual
def uptoBulk {H : Type} : DataW H → Nat
  | .lit (.string bytes) => bytes.length + 1
  | .lit _ => 1
  | .nil => 1
  | .ptr d => uptoBulk d + 1
  | .slice elems spare => uptoBulkAll elems + uptoBulkAll spare + 1
  | .agg parts => uptoBulkAll parts + 1
  | .iface _ d => uptoBulk d + 1
  | .map entries => uptoBulkEntries entries + 1
  | .held _ => 1
def uptoBulkAll {H : Type} : List (DataW H) → Nat
  | [] => 0
  | d :: r => uptoBulk d + uptoBulkAll r
def uptoBulkEntries {H : Type} : List (Lit × DataW H) → Nat
  | [] => 0
  | x :: r => uptoBulkEntry x + uptoBulkEntries r
def uptoBulkEntry {H : Type} : Lit × DataW H → Nat
  | (.string bytes, d) => bytes.length + uptoBulk d + 1
  | (_, d) => uptoBulk d + 1
 end
def uptoSmall : (H : Type) → List (DataW H) → Bool := fun _ ds => decide (uptoBulkAll ds ≤ 1048576)
def OpenSpec.upto (s : _root_.Go.ChangeSpec) : _root_.Go.OpenSpec := { _root_.Go.OpenSpec.ofChange s with cond := some uptoSmall }

/-- 'laws.FnSums', WHERE WHAT IT READS IS OF BULK AT MOST 1048576: true; the input reads as it did. -/
def fnSumsUptoRow : OpenClaim := { program := "yteoibjacgnmnpaa", sum := "383e98414d415e8026d35da985f895a0865600dbf9dfc904d721cdc6b6618475", func := "loop.example/g00094/laws.FnSums", spec := "fnSums", unfollowed := true, recurses := true, apart := false, narrowed := true }
def FnSumsUptoSaid : Prop := fnSumsUptoRow.holds Try.pinned (OpenSpec.upto fnSumsSpec)

/-- 'laws.FnExactLoad', WHERE WHAT IT READS IS OF BULK AT MOST 1048576: true; the input reads as it did. -/
def fnExactLoadUptoRow : OpenClaim := { program := "yteoibjacgnmnpaa", sum := "383e98414d415e8026d35da985f895a0865600dbf9dfc904d721cdc6b6618475", func := "loop.example/g00094/laws.FnExactLoad", spec := "fnExactLoad", unfollowed := true, recurses := true, apart := false, narrowed := true }
def FnExactLoadUptoSaid : Prop := fnExactLoadUptoRow.holds Try.pinned (OpenSpec.upto fnExactLoadSpec)

/-- 'laws.FnExactProfileOk', WHERE WHAT IT READS IS OF BULK AT MOST 1048576: true; the input reads as it did. -/
def fnExactProfileOkUptoRow : OpenClaim := { program := "yteoibjacgnmnpaa", sum := "383e98414d415e8026d35da985f895a0865600dbf9dfc904d721cdc6b6618475", func := "loop.example/g00094/laws.FnExactProfileOk", spec := "fnExactProfileOk", unfollowed := true, recurses := true, apart := false, narrowed := true }
def FnExactProfileOkUptoSaid : Prop := fnExactProfileOkUptoRow.holds Try.pinned (OpenSpec.upto fnExactProfileOkSpec)

/-- 'laws.FnExactThread', WHERE WHAT IT READS IS OF BULK AT MOST 1048576: true; the input reads as it did. -/
def fnExactThreadUptoRow : OpenClaim := { program := "yteoibjacgnmnpaa", sum := "383e98414d415e8026d35da985f895a0865600dbf9dfc904d721cdc6b6618475", func := "loop.example/g00094/laws.FnExactThread", spec := "fnExactThread", unfollowed := true, recurses := true, apart := false, narrowed := true }
def FnExactThreadUptoSaid : Prop := fnExactThreadUptoRow.holds Try.pinned (OpenSpec.upto fnExactThreadSpec)

/-- 'laws.FnExactPlanOk', WHERE WHAT IT READS IS OF BULK AT MOST 1048576: true; the input reads as it did. -/
def fnExactPlanOkUptoRow : OpenClaim := { program := "yteoibjacgnmnpaa", sum := "383e98414d415e8026d35da985f895a0865600dbf9dfc904d721cdc6b6618475", func := "loop.example/g00094/laws.FnExactPlanOk", spec := "fnExactPlanOk", unfollowed := true, recurses := true, apart := false, narrowed := true }
def FnExactPlanOkUptoSaid : Prop := fnExactPlanOkUptoRow.holds Try.pinned (OpenSpec.upto fnExactPlanOkSpec)

/-- 'laws.FnExactCut', WHERE WHAT IT READS IS OF BULK AT MOST 1048576: true; the input reads as it did. -/
def fnExactCutUptoRow : OpenClaim := { program := "yteoibjacgnmnpaa", sum := "383e98414d415e8026d35da985f895a0865600dbf9dfc904d721cdc6b6618475", func := "loop.example/g00094/laws.FnExactCut", spec := "fnExactCut", unfollowed := true, recurses := true, apart := false, narrowed := true }
def FnExactCutUptoSaid : Prop := fnExactCutUptoRow.holds Try.pinned (OpenSpec.upto fnExactCutSpec)

/-- 'laws.FnExactStart', WHERE WHAT IT READS IS OF BULK AT MOST 1048576: true; the input reads as it did. -/
def fnExactStartUptoRow : OpenClaim := { program := "yteoibjacgnmnpaa", sum := "383e98414d415e8026d35da985f895a0865600dbf9dfc904d721cdc6b6618475", func := "loop.example/g00094/laws.FnExactStart", spec := "fnExactStart", unfollowed := true, recurses := true, apart := false, narrowed := true }
def FnExactStartUptoSaid : Prop := fnExactStartUptoRow.holds Try.pinned (OpenSpec.upto fnExactStartSpec)

end Rows
end Go.Proofs.Yteoibjacgnmnpaa
