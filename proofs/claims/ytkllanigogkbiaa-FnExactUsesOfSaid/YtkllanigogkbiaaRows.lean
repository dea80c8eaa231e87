/-
  No cell of these rows narrows 'for every input' (looked for: loops, veiled, ifaces, maps, wideKeys, modest, calm, conditions, laid).
  DERIVED. THE GIVEN ROWS OF THIS SEAT. 12 by the template 'for every input the law returns true; each argument reads behind the call as it read before'; 0 by the template 'total and deterministic' (their statements: YtkllanigogkbiaaTotals.lean).
  GIVEN WITH THE SEED: the statements are not yours to turn. If you find one false, say at which input.
  Laid BY PROGRAM, IN A SANDBOX (cutbox-rows.mjs): the forced cells as the released guide's own fill.sh prints them over the translation 8673235be9434271… (all of the seat's roots in one cut). By AI agents, Wed Nov 11 2026. No macro, syntax, notation, axiom, sorry.
-/
import Derived.Test.YtkllanigogkbiaaChecked
import GoSem.Claim
import GoSem.ClaimJoined
import GoSem.ClaimMapViews
import Derived.JoinedTies
import Derived.KernelRfl
namespace Go.Proofs.Ytkllanigogkbiaa
/- THE CELL 'sum', in the pinned program and in every row, IS THE sha256 OF THE DUMP (.gsa) THAT YtkllanigogkbiaaProg.lean LOADS. Nothing in Lean hashes anything: it is a label: what it is worth is what the hold of that sum in a sandbox is worth. -/
noncomputable def Try.pinned : Pinned := { name := "ytkllanigogkbiaa", sum := "8673235be9434271e9796b2e45aae67b076117533bcf311918d81cda3c2b1d9b", checked := Try.checked }
namespace Rows
def none {H : Type} : Left H := { results := [], args := [] }

/-- 'laws.FnExactConstants': WHATEVER THE INPUT: true; the input reads as it did. -/
def fnExactConstantsSpec : ChangeSpec := { name := "fnExactConstants", fn := fun _ => fun
  | [] => { results := [.lit (.bool true)], args := [] }
  | _ => none }
def fnExactConstantsRow : OpenClaim := { program := "ytkllanigogkbiaa", sum := "8673235be9434271e9796b2e45aae67b076117533bcf311918d81cda3c2b1d9b", func := "loop.example/g00094/laws.FnExactConstants", spec := "fnExactConstants", apart := false }
def FnExactConstantsSaid : Prop := fnExactConstantsRow.holds Try.pinned (OpenSpec.ofChange fnExactConstantsSpec)

/-- ITS FALSE NEIGHBOUR: 'it returns false'. Refute it at one input. -/
def fnExactConstantsWrong : ChangeSpec := { name := "fnExactConstants", fn := fun _ => fun
  | [] => { results := [.lit (.bool false)], args := [] }
  | _ => none }
def FnExactConstantsWrongFalsely : Prop := fnExactConstantsRow.holds Try.pinned (OpenSpec.ofChange fnExactConstantsWrong)

/-- 'laws.FnExactSameOf': WHATEVER THE INPUT: true; the input reads as it did. -/
def fnExactSameOfSpec : ChangeSpec := { name := "fnExactSameOf", fn := fun _ => fun
  | [d1, d2] => { results := [.lit (.bool true)], args := [d1, d2] }
  | _ => none }
def fnExactSameOfRow : OpenClaim := { program := "ytkllanigogkbiaa", sum := "8673235be9434271e9796b2e45aae67b076117533bcf311918d81cda3c2b1d9b", func := "loop.example/g00094/laws.FnExactSameOf", spec := "fnExactSameOf", apart := false }
def FnExactSameOfSaid : Prop := fnExactSameOfRow.holds Try.pinned (OpenSpec.ofChange fnExactSameOfSpec)

/-- ITS FALSE NEIGHBOUR: 'it returns false'. Refute it at one input. -/
def fnExactSameOfWrong : ChangeSpec := { name := "fnExactSameOf", fn := fun _ => fun
  | [d1, d2] => { results := [.lit (.bool false)], args := [d1, d2] }
  | _ => none }
def FnExactSameOfWrongFalsely : Prop := fnExactSameOfRow.holds Try.pinned (OpenSpec.ofChange fnExactSameOfWrong)

/-- 'laws.FnExactNotOf': WHATEVER THE INPUT: true; the input reads as it did. -/
def fnExactNotOfSpec : ChangeSpec := { name := "fnExactNotOf", fn := fun _ => fun
  | [d] => { results := [.lit (.bool true)], args := [d] }
  | _ => none }
def fnExactNotOfRow : OpenClaim := { program := "ytkllanigogkbiaa", sum := "8673235be9434271e9796b2e45aae67b076117533bcf311918d81cda3c2b1d9b", func := "loop.example/g00094/laws.FnExactNotOf", spec := "fnExactNotOf", apart := false }
def FnExactNotOfSaid : Prop := fnExactNotOfRow.holds Try.pinned (OpenSpec.ofChange fnExactNotOfSpec)

/-- ITS FALSE NEIGHBOUR: 'it returns false'. Refute it at one input. -/
def fnExactNotOfWrong : ChangeSpec := { name := "fnExactNotOf", fn := fun _ => fun
  | [d] => { results := [.lit (.bool false)], args := [d] }
  | _ => none }
def FnExactNotOfWrongFalsely : Prop := fnExactNotOfRow.holds Try.pinned (OpenSpec.ofChange fnExactNotOfWrong)

/-- 'laws.FnExactSiteAt': WHATEVER THE INPUT: true; the input reads as it did. -/
def fnExactSiteAtSpec : ChangeSpec := { name := "fnExactSiteAt", fn := fun _ => fun
  | [d1, d2, d3] => { results := [.lit (.bool true)], args := [d1, d2, d3] }
  | _ => none }
def fnExactSiteAtRow : OpenClaim := { program := "ytkllanigogkbiaa", sum := "8673235be9434271e9796b2e45aae67b076117533bcf311918d81cda3c2b1d9b", func := "loop.example/g00094/laws.FnExactSiteAt", spec := "fnExactSiteAt", apart := false }
def FnExactSiteAtSaid : Prop := fnExactSiteAtRow.holds Try.pinned (OpenSpec.ofChange fnExactSiteAtSpec)

/-- ITS FALSE NEIGHBOUR: 'it returns false'. Refute it at one input. -/
def fnExactSiteAtWrong : ChangeSpec := { name := "fnExactSiteAt", fn := fun _ => fun
  | [d1, d2, d3] => { results := [.lit (.bool false)], args := [d1, d2, d3] }
  | _ => none }
def FnExactSiteAtWrongFalsely : Prop := fnExactSiteAtRow.holds Try.pinned (OpenSpec.ofChange fnExactSiteAtWrong)

/-- 'laws.FnExactLessOf': WHATEVER THE INPUT: true; the input reads as it did. -/
def fnExactLessOfSpec : ChangeSpec := { name := "fnExactLessOf", fn := fun _ => fun
  | [d1, d2] => { results := [.lit (.bool true)], args := [d1, d2] }
  | _ => none }
def fnExactLessOfRow : OpenClaim := { program := "ytkllanigogkbiaa", sum := "8673235be9434271e9796b2e45aae67b076117533bcf311918d81cda3c2b1d9b", func := "loop.example/g00094/laws.FnExactLessOf", spec := "fnExactLessOf", apart := false }
def FnExactLessOfSaid : Prop := fnExactLessOfRow.holds Try.pinned (OpenSpec.ofChange fnExactLessOfSpec)

/-- ITS FALSE NEIGHBOUR: 'it returns false'. Refute it at one input. -/
def fnExactLessOfWrong : ChangeSpec := { name := "fnExactLessOf", fn := fun _ => fun
  | [d1, d2] => { results := [.lit (.bool false)], args := [d1, d2] }
  | _ => none }
def FnExactLessOfWrongFalsely : Prop := fnExactLessOfRow.holds Try.pinned (OpenSpec.ofChange fnExactLessOfWrong)

/-- 'laws.FnExactMulOf': WHATEVER THE INPUT: true; the input reads as it did. -/
def fnExactMulOfSpec : ChangeSpec := { name := "fnExactMulOf", fn := fun _ => fun
  | [d1, d2] => { results := [.lit (.bool true)], args := [d1, d2] }
  | _ => none }
def fnExactMulOfRow : OpenClaim := { program := "ytkllanigogkbiaa", sum := "8673235be9434271e9796b2e45aae67b076117533bcf311918d81cda3c2b1d9b", func := "loop.example/g00094/laws.FnExactMulOf", spec := "fnExactMulOf", unfollowed := true, recurses := true, apart := false }
def FnExactMulOfSaid : Prop := fnExactMulOfRow.holds Try.pinned (OpenSpec.ofChange fnExactMulOfSpec)

/-- ITS FALSE NEIGHBOUR: 'it returns false'. Refute it at one input. -/
def fnExactMulOfWrong : ChangeSpec := { name := "fnExactMulOf", fn := fun _ => fun
  | [d1, d2] => { results := [.lit (.bool false)], args := [d1, d2] }
  | _ => none }
def FnExactMulOfWrongFalsely : Prop := fnExactMulOfRow.holds Try.pinned (OpenSpec.ofChange fnExactMulOfWrong)

/-- 'laws.FnExactSubOf': WHATEVER THE INPUT: true; the input reads as it did. -/
def fnExactSubOfSpec : ChangeSpec := { name := "fnExactSubOf", fn := fun _ => fun
  | [d1, d2] => { results := [.lit (.bool true)], args := [d1, d2] }
  | _ => none }
def fnExactSubOfRow : OpenClaim := { program := "ytkllanigogkbiaa", sum := "8673235be9434271e9796b2e45aae67b076117533bcf311918d81cda3c2b1d9b", func := "loop.example/g00094/laws.FnExactSubOf", spec := "fnExactSubOf", unfollowed := true, recurses := true, apart := false }
def FnExactSubOfSaid : Prop := fnExactSubOfRow.holds Try.pinned (OpenSpec.ofChange fnExactSubOfSpec)

/-- ITS FALSE NEIGHBOUR: 'it returns false'. Refute it at one input. -/
def fnExactSubOfWrong : ChangeSpec := { name := "fnExactSubOf", fn := fun _ => fun
  | [d1, d2] => { results := [.lit (.bool false)], args := [d1, d2] }
  | _ => none }
def FnExactSubOfWrongFalsely : Prop := fnExactSubOfRow.holds Try.pinned (OpenSpec.ofChange fnExactSubOfWrong)

/-- 'laws.FnExactAddOf': WHATEVER THE INPUT: true; the input reads as it did. -/
def fnExactAddOfSpec : ChangeSpec := { name := "fnExactAddOf", fn := fun _ => fun
  | [d1, d2] => { results := [.lit (.bool true)], args := [d1, d2] }
  | _ => none }
def fnExactAddOfRow : OpenClaim := { program := "ytkllanigogkbiaa", sum := "8673235be9434271e9796b2e45aae67b076117533bcf311918d81cda3c2b1d9b", func := "loop.example/g00094/laws.FnExactAddOf", spec := "fnExactAddOf", unfollowed := true, recurses := true, apart := false }
def FnExactAddOfSaid : Prop := fnExactAddOfRow.holds Try.pinned (OpenSpec.ofChange fnExactAddOfSpec)

/-- ITS FALSE NEIGHBOUR: 'it returns false'. Refute it at one input. -/
def fnExactAddOfWrong : ChangeSpec := { name := "fnExactAddOf", fn := fun _ => fun
  | [d1, d2] => { results := [.lit (.bool false)], args := [d1, d2] }
  | _ => none }
def FnExactAddOfWrongFalsely : Prop := fnExactAddOfRow.holds Try.pinned (OpenSpec.ofChange fnExactAddOfWrong)

/-- 'laws.FnExactSpecAt': WHATEVER THE INPUT: true; the input reads as it did. -/
def fnExactSpecAtSpec : ChangeSpec := { name := "fnExactSpecAt", fn := fun _ => fun
  | [d1, d2, d3] => { results := [.lit (.bool true)], args := [d1, d2, d3] }
  | _ => none }
def fnExactSpecAtRow : OpenClaim := { program := "ytkllanigogkbiaa", sum := "8673235be9434271e9796b2e45aae67b076117533bcf311918d81cda3c2b1d9b", func := "loop.example/g00094/laws.FnExactSpecAt", spec := "fnExactSpecAt", apart := false }
def FnExactSpecAtSaid : Prop := fnExactSpecAtRow.holds Try.pinned (OpenSpec.ofChange fnExactSpecAtSpec)

/-- ITS FALSE NEIGHBOUR: 'it returns false'. Refute it at one input. -/
def fnExactSpecAtWrong : ChangeSpec := { name := "fnExactSpecAt", fn := fun _ => fun
  | [d1, d2, d3] => { results := [.lit (.bool false)], args := [d1, d2, d3] }
  | _ => none }
def FnExactSpecAtWrongFalsely : Prop := fnExactSpecAtRow.holds Try.pinned (OpenSpec.ofChange fnExactSpecAtWrong)

/-- 'laws.FnExactActOk': WHATEVER THE INPUT: true; the input reads as it did. -/
def fnExactActOkSpec : ChangeSpec := { name := "fnExactActOk", fn := fun _ => fun
  | [d] => { results := [.lit (.bool true)], args := [d] }
  | _ => none }
def fnExactActOkRow : OpenClaim := { program := "ytkllanigogkbiaa", sum := "8673235be9434271e9796b2e45aae67b076117533bcf311918d81cda3c2b1d9b", func := "loop.example/g00094/laws.FnExactActOk", spec := "fnExactActOk", apart := false }
def FnExactActOkSaid : Prop := fnExactActOkRow.holds Try.pinned (OpenSpec.ofChange fnExactActOkSpec)

/-- ITS FALSE NEIGHBOUR: 'it returns false'. Refute it at one input. -/
def fnExactActOkWrong : ChangeSpec := { name := "fnExactActOk", fn := fun _ => fun
  | [d] => { results := [.lit (.bool false)], args := [d] }
  | _ => none }
def FnExactActOkWrongFalsely : Prop := fnExactActOkRow.holds Try.pinned (OpenSpec.ofChange fnExactActOkWrong)

/-- 'laws.FnSums': WHATEVER THE INPUT: true; the input reads as it did. -/
def fnSumsSpec : ChangeSpec := { name := "fnSums", fn := fun _ => fun
  | [d] => { results := [.lit (.bool true)], args := [d] }
  | _ => none }
def fnSumsRow : OpenClaim := { program := "ytkllanigogkbiaa", sum := "8673235be9434271e9796b2e45aae67b076117533bcf311918d81cda3c2b1d9b", func := "loop.example/g00094/laws.FnSums", spec := "fnSums", unfollowed := true, recurses := true, apart := false }
def FnSumsSaid : Prop := fnSumsRow.holds Try.pinned (OpenSpec.ofChange fnSumsSpec)

/-- ITS FALSE NEIGHBOUR: 'it returns false'. Refute it at one input. -/
def fnSumsWrong : ChangeSpec := { name := "fnSums", fn := fun _ => fun
  | [d] => { results := [.lit (.bool false)], args := [d] }
  | _ => none }
def FnSumsWrongFalsely : Prop := fnSumsRow.holds Try.pinned (OpenSpec.ofChange fnSumsWrong)

/-- 'laws.FnExactUsesOf': WHATEVER THE INPUT: true; the input reads as it did. -/
def fnExactUsesOfSpec : ChangeSpec := { name := "fnExactUsesOf", fn := fun _ => fun
  | [d1, d2] => { results := [.lit (.bool true)], args := [d1, d2] }
  | _ => none }
def fnExactUsesOfRow : OpenClaim := { program := "ytkllanigogkbiaa", sum := "8673235be9434271e9796b2e45aae67b076117533bcf311918d81cda3c2b1d9b", func := "loop.example/g00094/laws.FnExactUsesOf", spec := "fnExactUsesOf", apart := false }
def FnExactUsesOfSaid : Prop := fnExactUsesOfRow.holds Try.pinned (OpenSpec.ofChange fnExactUsesOfSpec)

/-- ITS FALSE NEIGHBOUR: 'it returns false'. Refute it at one input. -/
def fnExactUsesOfWrong : ChangeSpec := { name := "fnExactUsesOf", fn := fun _ => fun
  | [d1, d2] => { results := [.lit (.bool false)], args := [d1, d2] }
  | _ => none }
def FnExactUsesOfWrongFalsely : Prop := fnExactUsesOfRow.holds Try.pinned (OpenSpec.ofChange fnExactUsesOfWrong)

/- THE SECOND FORM. 'bulk': how many values and letters a reading holds, each counted each time it is reached (what is shared counts as often as it is met; a slice's spare places count too). A statement '..UptoSaid' is the law's where the arguments, and the package variables that the reading takes, are together of bulk at most 1048576: NARROWER than '..Said'. Prove '..Said' where nothing that the law and all that it calls make is longer than what came in: it says more and counts as full. Else prove '..UptoSaid'. A law counts once. -/
mutual
def uptoBulk {H : Type} : DataW H → Nat
  | .lit (.string bytes) => bytes.length + 1
  | .lit _ => 1
  | .nil => 1
  | .ptr d => uptoBulk d + 1
  | .slice elems spare => uptoBulkAll elems + uptoBulkAll spare + 1
  | .agg parts => uptoBulkAll parts + 1
  | .iface _ d => uptoBulk d + 1
  | .map entries => uptoBulkEntries entries + 1
  | .held _ => 1
def uptoBulkAll {H : Type} : List (DataW H) → Nat
  | [] => 0
  | d :: r => uptoBulk d + uptoBulkAll r
def uptoBulkEntries {H : Type} : List (Lit × DataW H) → Nat
  | [] => 0
  | x :: r => uptoBulkEntry x + uptoBulkEntries r
def uptoBulkEntry {H : Type} : Lit × DataW H → Nat
  | (.string bytes, d) => bytes.length + uptoBulk d + 1
  | (_, d) => uptoBulk d + 1
 end
def uptoSmall : (H : Type) → List (DataW H) → Bool := fun _ ds => decide (uptoBulkAll ds ≤ 1048576)
def OpenSpec.upto (s : _root_.Go.ChangeSpec) : _root_.Go.OpenSpec := { _root_.Go.OpenSpec.ofChange s with cond := some uptoSmall }

/-- 'laws.FnExactConstants', WHERE WHAT IT READS IS OF BULK AT MOST 1048576: true; the input reads as it did. -/
def fnExactConstantsUptoRow : OpenClaim := { program := "ytkllanigogkbiaa", sum := "8673235be9434271e9796b2e45aae67b076117533bcf311918d81cda3c2b1d9b", func := "loop.example/g00094/laws.FnExactConstants", spec := "fnExactConstants", apart := false, narrowed := true }
def FnExactConstantsUptoSaid : Prop := fnExactConstantsUptoRow.holds Try.pinned (OpenSpec.upto fnExactConstantsSpec)

/-- 'laws.FnExactSameOf', WHERE WHAT IT READS IS OF BULK AT MOST 1048576: true; the input reads as it did. -/
def fnExactSameOfUptoRow : OpenClaim := { program := "ytkllanigogkbiaa", sum := "8673235be9434271e9796b2e45aae67b076117533bcf311918d81cda3c2b1d9b", func := "loop.example/g00094/laws.FnExactSameOf", spec := "fnExactSameOf", apart := false, narrowed := true }
def FnExactSameOfUptoSaid : Prop := fnExactSameOfUptoRow.holds Try.pinned (OpenSpec.upto fnExactSameOfSpec)

/-- 'laws.FnExactNotOf', WHERE WHAT IT READS IS OF BULK AT MOST 1048576: true; the input reads as it did. -/
def fnExactNotOfUptoRow : OpenClaim := { program := "ytkllanigogkbiaa", sum := "8673235be9434271e9796b2e45aae67b076117533bcf311918d81cda3c2b1d9b", func := "loop.example/g00094/laws.FnExactNotOf", spec := "fnExactNotOf", apart := false, narrowed := true }
def FnExactNotOfUptoSaid : Prop := fnExactNotOfUptoRow.holds Try.pinned (OpenSpec.upto fnExactNotOfSpec)

/-- 'laws.FnExactSiteAt', WHERE WHAT IT READS IS OF BULK AT MOST 1048576: true; the input reads as it did. -/
def fnExactSiteAtUptoRow : OpenClaim := { program := "ytkllanigogkbiaa", sum := "8673235be9434271e9796b2e45aae67b076117533bcf311918d81cda3c2b1d9b", func := "loop.example/g00094/laws.FnExactSiteAt", spec := "fnExactSiteAt", apart := false, narrowed := true }
def FnExactSiteAtUptoSaid : Prop := fnExactSiteAtUptoRow.holds Try.pinned (OpenSpec.upto fnExactSiteAtSpec)

/-- 'laws.FnExactLessOf', WHERE WHAT IT READS IS OF BULK AT MOST 1048576: true; the input reads as it did. -/
def fnExactLessOfUptoRow : OpenClaim := { program := "ytkllanigogkbiaa", sum := "8673235be9434271e9796b2e45aae67b076117533bcf311918d81cda3c2b1d9b", func := "loop.example/g00094/laws.FnExactLessOf", spec := "fnExactLessOf", apart := false, narrowed := true }
def FnExactLessOfUptoSaid : Prop := fnExactLessOfUptoRow.holds Try.pinned (OpenSpec.upto fnExactLessOfSpec)

/-- 'laws.FnExactMulOf', WHERE WHAT IT READS IS OF BULK AT MOST 1048576: true; the input reads as it did. -/
def fnExactMulOfUptoRow : OpenClaim := { program := "ytkllanigogkbiaa", sum := "8673235be9434271e9796b2e45aae67b076117533bcf311918d81cda3c2b1d9b", func := "loop.example/g00094/laws.FnExactMulOf", spec := "fnExactMulOf", unfollowed := true, recurses := true, apart := false, narrowed := true }
def FnExactMulOfUptoSaid : Prop := fnExactMulOfUptoRow.holds Try.pinned (OpenSpec.upto fnExactMulOfSpec)

/-- 'laws.FnExactSubOf', WHERE WHAT IT READS IS OF BULK AT MOST 1048576: true; the input reads as it did. -/
def fnExactSubOfUptoRow : OpenClaim := { program := "ytkllanigogkbiaa", sum := "8673235be9434271e9796b2e45aae67b076117533bcf311918d81cda3c2b1d9b", func := "loop.example/g00094/laws.FnExactSubOf", spec := "fnExactSubOf", unfollowed := true, recurses := true, apart := false, narrowed := true }
def FnExactSubOfUptoSaid : Prop := fnExactSubOfUptoRow.holds Try.pinned (OpenSpec.upto fnExactSubOfSpec)

/-- 'laws.FnExactAddOf', WHERE WHAT IT READS IS OF BULK AT MOST 1048576: true; the input reads as it did. -/
def fnExactAddOfUptoRow : OpenClaim := { program := "ytkllanigogkbiaa", sum := "8673235be9434271e9796b2e45aae67b076117533bcf311918d81cda3c2b1d9b", func := "loop.example/g00094/laws.FnExactAddOf", spec := "fnExactAddOf", unfollowed := true, recurses := true, apart := false, narrowed := true }
def FnExactAddOfUptoSaid : Prop := fnExactAddOfUptoRow.holds Try.pinned (OpenSpec.upto fnExactAddOfSpec)

/-- 'laws.FnExactSpecAt', WHERE WHAT IT READS IS OF BULK AT MOST 1048576: true; the input reads as it did. -/
def fnExactSpecAtUptoRow : OpenClaim := { program := "ytkllanigogkbiaa", sum := "8673235be9434271e9796b2e45aae67b076117533bcf311918d81cda3c2b1d9b", func := "loop.example/g00094/laws.FnExactSpecAt", spec := "fnExactSpecAt", apart := false, narrowed := true }
def FnExactSpecAtUptoSaid : Prop := fnExactSpecAtUptoRow.holds Try.pinned (OpenSpec.upto fnExactSpecAtSpec)

/-- 'laws.FnExactActOk', WHERE WHAT IT READS IS OF BULK AT MOST 1048576: true; the input reads as it did. -/
def fnExactActOkUptoRow : OpenClaim := { program := "ytkllanigogkbiaa", sum := "8673235be9434271e9796b2e45aae67b076117533bcf311918d81cda3c2b1d9b", func := "loop.example/g00094/laws.FnExactActOk", spec := "fnExactActOk", apart := false, narrowed := true }
def FnExactActOkUptoSaid : Prop := fnExactActOkUptoRow.holds Try.pinned (OpenSpec.upto fnExactActOkSpec)

/-- 'laws.FnSums', WHERE WHAT IT READS IS OF BULK AT MOST 1048576: true; the input reads as it did. -/
def fnSumsUptoRow : OpenClaim := { program := "ytkllanigogkbiaa", sum := "8673235be9434271e9796b2e45aae67b076117533bcf311918d81cda3c2b1d9b", func := "loop.example/g00094/laws.FnSums", spec := "fnSums", unfollowed := true, recurses := true, apart := false, narrowed := true }
def FnSumsUptoSaid : Prop := fnSumsUptoRow.holds Try.pinned (OpenSpec.upto fnSumsSpec)

/-- 'laws.FnExactUsesOf', WHERE WHAT IT READS IS OF BULK AT MOST 1048576: true; the input reads as it did. -/
def fnExactUsesOfUptoRow : OpenClaim := { program := "ytkllanigogkbiaa", sum := "8673235be9434271e9796b2e45aae67b076117533bcf311918d81cda3c2b1d9b", func := "loop.example/g00094/laws.FnExactUsesOf", spec := "fnExactUsesOf", apart := false, narrowed := true }
def FnExactUsesOfUptoSaid : Prop := fnExactUsesOfUptoRow.holds Try.pinned (OpenSpec.upto fnExactUsesOfSpec)

end Rows
end Go.Proofs.Ytkllanigogkbiaa
