/-
  DERIVED. GIVEN WITH THE SEED: THE CARDS: each row of YtpjdecneeakkeaaDoorRows.lean that lists a variable, with what it lists TIED to the program's text (the seventh form; the later family's looks); each row that meets fmt, with fmt's text TOLD by the authors' own Lean function (tested against real Go, not proved from fmt's source: count such statements apart). THE CARD IS WHAT COUNTS. Prove the row's statement (the work); the ties are given (YtpjdecneeakkeaaDoorTie.lean); close each card by the builder's one call (the guide's Derived/Test/ToyasCard.lean, 'card_holds'). Laid BY PROGRAM, IN A SANDBOX (cutbox-door.mjs). By AI agents, Wed Nov 11 2026. No macro, syntax, notation, axiom, sorry.
-/
import Derived.Test.YtpjdecneeakkeaaDoorRows
import GoSem.ClaimSeven
namespace Go.Proofs.YtpjdecneeakkeaaDoor
namespace Rows

/-- THE TIED CARD OF 'laws.FnExactInsText'. -/
def fnExactInsTextCard : Claim7 := { stood := { row := fnExactInsTextRow, standIns := [], harness := (true, "b09b9adfe7580327ac1b6ad771706e087741053aeb9354d35fa09b195e8b3f8f"), looks := false }, kinds := [], alts := [], laidByText := true, laidKinds := [.data, .data, .data, .widerDeep], laidTests := true, laidLooks := .later }
def FnExactInsTextCardSaid : Prop := Claim7.holds Tryd.pinned (.plain (OpenSpec.ofChange fnExactInsTextSpec)) fnExactInsTextCard

/-- THE TIED CARD OF 'laws.FnExactSpecText'. -/
def fnExactSpecTextCard : Claim7 := { stood := { row := fnExactSpecTextRow, standIns := [], harness := (true, "b09b9adfe7580327ac1b6ad771706e087741053aeb9354d35fa09b195e8b3f8f"), looks := false }, kinds := [], alts := [], laidByText := true, laidKinds := [.data, .data, .data], laidTests := true, laidLooks := .later }
def FnExactSpecTextCardSaid : Prop := Claim7.holds Tryd.pinned (.plain (OpenSpec.ofChange fnExactSpecTextSpec)) fnExactSpecTextCard

/-- THE TIED CARD OF 'laws.FnExactValueText'. -/
def fnExactValueTextCard : Claim7 := { stood := { row := fnExactValueTextRow, standIns := [], harness := (true, "b09b9adfe7580327ac1b6ad771706e087741053aeb9354d35fa09b195e8b3f8f"), looks := false }, kinds := [], alts := [], laidByText := true, laidKinds := [.data, .data, .data], laidTests := true, laidLooks := .later }
def FnExactValueTextCardSaid : Prop := Claim7.holds Tryd.pinned (.plain (OpenSpec.ofChange fnExactValueTextSpec)) fnExactValueTextCard

/-- THE TIED CARD OF 'laws.FnExactScriptText'. -/
def fnExactScriptTextCard : Claim7 := { stood := { row := fnExactScriptTextRow, standIns := [], harness := (true, "b09b9adfe7580327ac1b6ad771706e087741053aeb9354d35fa09b195e8b3f8f"), looks := false }, kinds := [], alts := [], laidByText := true, laidKinds := [.data, .data, .data], laidTests := true, laidLooks := .later }
def FnExactScriptTextCardSaid : Prop := Claim7.holds Tryd.pinned (.plain (OpenSpec.ofChange fnExactScriptTextSpec)) fnExactScriptTextCard

/-- THE TIED CARD OF 'laws.FnExactShowModule'. -/
def fnExactShowModuleCard : Claim7 := { stood := { row := fnExactShowModuleRow, standIns := [], harness := (true, "b09b9adfe7580327ac1b6ad771706e087741053aeb9354d35fa09b195e8b3f8f"), looks := false }, kinds := [], alts := [], laidByText := true, laidKinds := [.data, .data, .data, .widerDeep], laidTests := true, laidLooks := .later }
def FnExactShowModuleCardSaid : Prop := Claim7.holds Tryd.pinned (.plain (OpenSpec.ofChange fnExactShowModuleSpec)) fnExactShowModuleCard

/-- THE SECOND FORM's CARD OF 'laws.FnExactInsText'. -/
def fnExactInsTextUptoCard : Claim7 := { stood := { row := fnExactInsTextUptoRow, standIns := [], harness := (true, "b09b9adfe7580327ac1b6ad771706e087741053aeb9354d35fa09b195e8b3f8f"), looks := false }, kinds := [], alts := [], laidByText := true, laidKinds := [.data, .data, .data, .widerDeep], laidTests := true, laidLooks := .later }
def FnExactInsTextUptoCardSaid : Prop := Claim7.holds Tryd.pinned (.plain (OpenSpec.upto fnExactInsTextSpec)) fnExactInsTextUptoCard

/-- THE SECOND FORM's CARD OF 'laws.FnExactSpecText'. -/
def fnExactSpecTextUptoCard : Claim7 := { stood := { row := fnExactSpecTextUptoRow, standIns := [], harness := (true, "b09b9adfe7580327ac1b6ad771706e087741053aeb9354d35fa09b195e8b3f8f"), looks := false }, kinds := [], alts := [], laidByText := true, laidKinds := [.data, .data, .data], laidTests := true, laidLooks := .later }
def FnExactSpecTextUptoCardSaid : Prop := Claim7.holds Tryd.pinned (.plain (OpenSpec.upto fnExactSpecTextSpec)) fnExactSpecTextUptoCard

/-- THE SECOND FORM's CARD OF 'laws.FnExactValueText'. -/
def fnExactValueTextUptoCard : Claim7 := { stood := { row := fnExactValueTextUptoRow, standIns := [], harness := (true, "b09b9adfe7580327ac1b6ad771706e087741053aeb9354d35fa09b195e8b3f8f"), looks := false }, kinds := [], alts := [], laidByText := true, laidKinds := [.data, .data, .data], laidTests := true, laidLooks := .later }
def FnExactValueTextUptoCardSaid : Prop := Claim7.holds Tryd.pinned (.plain (OpenSpec.upto fnExactValueTextSpec)) fnExactValueTextUptoCard

/-- THE SECOND FORM's CARD OF 'laws.FnExactScriptText'. -/
def fnExactScriptTextUptoCard : Claim7 := { stood := { row := fnExactScriptTextUptoRow, standIns := [], harness := (true, "b09b9adfe7580327ac1b6ad771706e087741053aeb9354d35fa09b195e8b3f8f"), looks := false }, kinds := [], alts := [], laidByText := true, laidKinds := [.data, .data, .data], laidTests := true, laidLooks := .later }
def FnExactScriptTextUptoCardSaid : Prop := Claim7.holds Tryd.pinned (.plain (OpenSpec.upto fnExactScriptTextSpec)) fnExactScriptTextUptoCard

/-- THE SECOND FORM's CARD OF 'laws.FnExactShowModule'. -/
def fnExactShowModuleUptoCard : Claim7 := { stood := { row := fnExactShowModuleUptoRow, standIns := [], harness := (true, "b09b9adfe7580327ac1b6ad771706e087741053aeb9354d35fa09b195e8b3f8f"), looks := false }, kinds := [], alts := [], laidByText := true, laidKinds := [.data, .data, .data, .widerDeep], laidTests := true, laidLooks := .later }
def FnExactShowModuleUptoCardSaid : Prop := Claim7.holds Tryd.pinned (.plain (OpenSpec.upto fnExactShowModuleSpec)) fnExactShowModuleUptoCard
end Rows
end Go.Proofs.YtpjdecneeakkeaaDoor
