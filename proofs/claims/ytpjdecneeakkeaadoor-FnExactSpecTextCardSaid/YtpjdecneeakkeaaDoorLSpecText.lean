/- The walk of the law of SpecText. Written by a program (lawg.py). -/
import Derived.Test.YtpjdecneeakkeaaDoorK3
import Derived.Test.YtpjdecneeakkeaaDoorK4
import Derived.Test.YtpjdecneeakkeaaDoorSpecT
namespace Go.Proofs.YtpjdecneeakkeaaDoor.Dat
open Go Go.RowKit Go.Proofs.YtpjdecneeakkeaaDoor.Mem
set_option linter.unusedVariables false
set_option linter.unusedSimpArgs false
set_option maxHeartbeats 8000000 in
set_option maxRecDepth 100000 in
theorem lawxSpecText (s : DSpec) (w : World)   (hV0 : VSpec s) (htab : Tab w) : Calls Tryd.prog 4 #[.agg #[.int .i64 s.fn, .int .i64 s.pc, .int .i64 s.kind, .int .i64 s.target]] w fun e w' => e = .returned (.bool true) ∧ Below w.heap.size w w' := by
  have hI : I64 s.fn ∧ I64 s.pc ∧ I64 s.target := ⟨wfI hV0.1, wfI hV0.2.1, wfI hV0.2.2.2⟩
  obtain ⟨X, hX⟩ : ∃ X : List UInt8, specTextL s.fn s.pc s.kind s.target = X := ⟨_, rfl⟩
  have HX := Lib.hid hX
  clear hX
  have hS := (St.start w).made (.cells #[.int .i64 s.fn, .int .i64 s.pc, .int .i64 s.kind, .int .i64 s.target] 29 (0, 0))
  go_enter Tryd.func4, Tryd.ntmps4
  go_wp2_with fail
  refine (toSpec_c s _).mono ?_
  rintro e w1 ⟨rfl, hb⟩
  try clear x_P0
  replace hS := hS.step hb
  clear hb
  have x_P0 := hS.cell 0 rfl
  go_wp2_with fail
  refine (specText3 s.fn s.pc s.kind s.target _ hI.1 hI.2.1 hI.2.2 HX.out).mono ?_
  rintro e w2 ⟨rfl, hb⟩
  try clear x_P0
  replace hS := hS.step hb
  clear hb
  have x_P0 := hS.cell 0 rfl
  go_wp2_with fail
  refine (toSpec_c s _).mono ?_
  rintro e w3 ⟨rfl, hb⟩
  try clear x_P0
  replace hS := hS.step hb
  clear hb
  have x_P0 := hS.cell 0 rfl
  go_wp2_with fail
  refine (specTextI s.fn s.pc s.kind s.target _ hI.1 hI.2.1 hI.2.2 (htab.below hS.bel) HX.out).mono ?_
  rintro e w4 ⟨rfl, hb⟩
  try clear x_P0
  replace hS := hS.step hb
  clear hb
  have x_P0 := hS.cell 0 rfl
  go_wp2
  go_ret
  exact ⟨rfl, hS.bel⟩
theorem lawSpecText (s_0 : Int) (s_1 : Int) (s_2 : Int) (s_3 : Int) (w : World)   (b0_0 : (Lit.int .i64 s_0).wf = true) (b0_1 : (Lit.int .i64 s_1).wf = true) (b0_2 : (Lit.int .i64 s_2).wf = true) (b0_3 : (Lit.int .i64 s_3).wf = true) (htab : Tab w) : Calls Tryd.prog 4 #[.agg #[.int .i64 s_0, .int .i64 s_1, .int .i64 s_2, .int .i64 s_3]] w fun e w' => e = .returned (.bool true) ∧ Below w.heap.size w w' := lawxSpecText (⟨s_0, s_1, s_2, s_3⟩ : DSpec) w  ⟨b0_0, b0_1, b0_2, b0_3⟩ htab
end Go.Proofs.YtpjdecneeakkeaaDoor.Dat
