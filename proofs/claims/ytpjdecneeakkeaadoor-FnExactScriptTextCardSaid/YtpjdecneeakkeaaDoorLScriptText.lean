/- The walk of the law of ScriptText. Written by a program (lawg.py). -/
import Derived.Test.YtpjdecneeakkeaaDoorK3
import Derived.Test.YtpjdecneeakkeaaDoorK4
import Derived.Test.YtpjdecneeakkeaaDoorScr
import Derived.Test.YtpjdecneeakkeaaDoorGAct
namespace Go.Proofs.YtpjdecneeakkeaaDoor.Dat
open Go Go.RowKit Go.Proofs.YtpjdecneeakkeaaDoor.Mem
set_option linter.unusedVariables false
set_option linter.unusedSimpArgs false
set_option maxHeartbeats 8000000 in
set_option maxRecDepth 100000 in
theorem lawxScriptText (acts : List DAct) (w : World) {A0 : Option Addr} {c0 : Nat} (hr0 : kAct.Row w A0 acts.length acts) (_ : acts.length ≤ c0) (hV0 : acts.length ≤ maxLen ∧ ∀ y ∈ acts, VAct y) (htab : Tab w) : Calls Tryd.prog 6 #[.slice A0 acts.length c0] w fun e w' => e = .returned (.bool true) ∧ Below w.heap.size w w' := by
  by_cases z0 : ((sumOf msAct acts : Nat) : Int) ≤ (1048576 : Int)
  rotate_left
  · skip
    have Z0 := szActS_c A0 c0 acts (1048576)
    rw [lft_gt (by omega)] at Z0
    have hS := St.start w
    go_enter Tryd.func6, Tryd.ntmps6
    go_wp2_with fail
    refine (Z0 _ (hr0.below hS.bel) hV0.1 hV0.2 (by omega) (by omega)).mono ?_
    rintro e w1 ⟨rfl, hb⟩
    replace hS := hS.step hb
    clear hb
    go_wp2
    go_ret
    exact ⟨rfl, hS.bel⟩
  have Z0 := szActS_c A0 c0 acts (1048576)
  rw [lft_le z0] at Z0
  have g0 : 0 ≤ 1048576 - ((sumOf msAct acts : Nat) : Int) := by omega
  have hlen0 : acts.length ≤ 1048576 ∧ ∀ y ∈ acts, MAct y := ⟨by unfold sumOf at *; omega, fun y hy => by have h9 := mem_sum msAct _ y hy; exact MAct_of (by unfold sumOf at *; omega)⟩
  have hI : ∀ x ∈ acts, ActI x := fun x hx => ⟨wfI (hV0.2 x hx).2.1, wfI (hV0.2 x hx).2.2.1, wfI (hV0.2 x hx).2.2.2.1, fun q hq => ⟨wfI (((hV0.2 x hx).2.2.2.2.2).2 q hq).1, wfI (((hV0.2 x hx).2.2.2.2.2).2 q hq).2.1, wfI (((hV0.2 x hx).2.2.2.2.2).2 q hq).2.2.1, wfI (((hV0.2 x hx).2.2.2.2.2).2 q hq).2.2.2⟩⟩
  obtain ⟨X, hX⟩ : ∃ X : List UInt8, scriptL acts = X := ⟨_, rfl⟩
  have HX := Lib.hid hX
  clear hX
  have hS := St.start w
  go_enter Tryd.func6, Tryd.ntmps6
  go_wp2_with fail
  refine (Z0 _ (hr0.below hS.bel) hV0.1 hV0.2 (by omega) (by omega)).mono ?_
  rintro e w1 ⟨rfl, hb⟩
  replace hS := hS.step hb
  clear hb
  go_wp2_with fail
  refine (toActS_c _ _ acts _ (hr0.below hS.bel) hlen0).mono ?_
  intro e w2 hn
  obtain ⟨A2, c2, F2, rfl, hS2⟩ := St.newRowF hS hn
  replace hS := hS2
  clear hn hS2
  go_wp2_with fail
  refine (script3 _ _ acts _ (St.rowA hS 0 rfl) hlen0.1 hlen0.2 hI HX.out).mono ?_
  rintro e w3 ⟨rfl, hb⟩
  replace hS := hS.step hb
  clear hb
  go_wp2_with fail
  refine (toActS_c _ _ acts _ (hr0.below hS.bel) hlen0).mono ?_
  intro e w4 hn
  obtain ⟨A4, c4, F4, rfl, hS2⟩ := St.newRowF hS hn
  replace hS := hS2
  clear hn hS2
  go_wp2_with fail
  refine (scriptI _ _ acts _ (St.rowA hS 0 rfl) hlen0.1 hlen0.2 hI (htab.below hS.bel) HX.out).mono ?_
  rintro e w5 ⟨rfl, hb⟩
  replace hS := hS.step hb
  clear hb
  go_wp2_with fail
  refine (toActS_c _ _ acts _ (hr0.below hS.bel) hlen0).mono ?_
  intro e w6 hn
  obtain ⟨A6, c6, F6, rfl, hS2⟩ := St.newRowF hS hn
  replace hS := hS2
  clear hn hS2
  go_wp2_with fail
  refine (eqActS_c _ _ _ _ acts _ (St.rowA hS 1 rfl) (St.rowA hS 0 rfl)).mono ?_
  rintro e w7 ⟨rfl, hb⟩
  replace hS := hS.step hb
  clear hb
  go_wp2
  go_ret
  exact ⟨rfl, hS.bel⟩
theorem lawScriptText (acts : List DAct) (w : World) {A0 : Option Addr} {c0 : Nat} (hr0 : kAct.Row w A0 acts.length acts) (h_acts : acts.length ≤ c0) (hV0 : acts.length ≤ maxLen ∧ ∀ y ∈ acts, VAct y) (htab : Tab w) : Calls Tryd.prog 6 #[.slice A0 acts.length c0] w fun e w' => e = .returned (.bool true) ∧ Below w.heap.size w w' := lawxScriptText acts w hr0 h_acts hV0 htab
end Go.Proofs.YtpjdecneeakkeaaDoor.Dat
