/- FnExactScriptText: for every input the law returns true and each argument reads behind the call as it read before; no condition. -/
import Derived.Test.YtpjdecneeakkeaaDoorCards
import Derived.Test.YtpjdecneeakkeaaDoorTie
import Derived.SevenTiedAt
import Derived.Test.YtpjdecneeakkeaaDoorRows
import Derived.Test.YtpjdecneeakkeaaDoorLScriptText
import Derived.Test.YtpjdecneeakkeaaDoorK1
import Derived.LaidMore
import Derived.Stop.Joined
import Derived.Lib.LaidTab
import Derived.Lib.ItoaNum
import Derived.Stop.LaidErr
import Derived.MakeChecks
import Derived.OpenVars
import Derived.LaidHandle
import Derived.WalkKit
import Derived.ProofKit
import Derived.OpenShut
import Derived.ShutString
import Derived.ChangeOld
import Derived.Below
import Derived.SizedLaws
import Derived.ChangeMaps5
namespace Go.Proofs.YtpjdecneeakkeaaDoor.fnExactScriptText
open Go.ChangeShapes Go.WideShapes Go.ChangeAt Go.RowKit Go.Proofs.YtpjdecneeakkeaaDoor.Open Go.Proofs.YtpjdecneeakkeaaDoor.Mem Go.Proofs.YtpjdecneeakkeaaDoor.Dat
open Go.ChangeMaps (shut_string)
set_option linter.unusedVariables false
set_option linter.unusedSimpArgs false
theorem own : ownKnob Tryd.prog.godebug = none := by kernel_rfl
theorem laidOut : laidOutB Tryd.prog = true := by kernel_rfl
theorem door_met (os : Os) (args : Array Value) : laidMetH Tryd.prog Rows.fnExactScriptTextRow.laid ((World.doorLaid Tryd.prog 400 os).forCall (fun _ _ => 0) ⟨#[], args, []⟩).memory :=
  laidMetH_of_parts3 (fuel := 8) (laidMet_of_run' 8 (by kernel_rfl) (by kernel_rfl)) (by kernel_rfl) (by kernel_rfl)
theorem plainL : laidMetH Tryd.prog Rows.fnExactScriptTextRow.laid = laidMet Tryd.prog Rows.fnExactScriptTextRow.laid := funext fun w => MakeChecks.laidMetH_plain _ _ _ (by kernel_rfl)
theorem tabOf {W : World} (h : laidMetH Tryd.prog Rows.fnExactScriptTextRow.laid W) : Lib.TabIs Tryd.prog W "internal/strconv.uint64pow10" .u64 Lib.pow10Tab := by
  rw [plainL] at h
  exact Lib.tabIs_of_head (zs := Lib.pow10Tab) (g := 1) (t := 158) (e := 150) (n := 20) (by kernel_rfl) (by kernel_rfl) Tryd.underlying158 Tryd.underlying150 (by kernel_rfl) (by kernel_rfl) (h.tail.tail : laidMet Tryd.prog ((_, Lib.tabData .u64 Lib.pow10Tab) :: _) W)
set_option maxRecDepth 100000 in
theorem o140 : OpenK Tryd.prog 140 kSite VSite :=
  open_imp (open_iso (V := (fun x : Int × Int × Int × Int => ((Lit.int .i64 x.1).wf = true ∧ ((Lit.int .i64 x.2.1).wf = true ∧ ((Lit.int .i64 x.2.2.1).wf = true ∧ (Lit.int .i64 x.2.2.2).wf = true))))) (fun x : DSite => (x.fn, x.pc, x.seen, x.target)) (fun x => ⟨x.1, x.2.1, x.2.2.1, x.2.2.2⟩) (fun _ => rfl) (open_struct Tryd.underlying140 (by kernel_rfl) (open_cons (P := Tryd.prog) (off := 0) (k := (Knd.int .i64)) (V := fun x : Int => (Lit.int .i64 x).wf = true) (V' := (fun x : Int × Int × Int => ((Lit.int .i64 x.1).wf = true ∧ ((Lit.int .i64 x.2.1).wf = true ∧ (Lit.int .i64 x.2.2).wf = true)))) 1 (by kernel_rfl) rfl (by kernel_rfl) (open_int Tryd.underlying3) (open_cons (P := Tryd.prog) (off := 1) (k := (Knd.int .i64)) (V := fun x : Int => (Lit.int .i64 x).wf = true) (V' := (fun x : Int × Int => ((Lit.int .i64 x.1).wf = true ∧ (Lit.int .i64 x.2).wf = true))) 2 (by kernel_rfl) rfl (by kernel_rfl) (open_int Tryd.underlying3) (open_cons (P := Tryd.prog) (off := 2) (k := (Knd.int .i64)) (V := fun x : Int => (Lit.int .i64 x).wf = true) (V' := (fun x : Int => (Lit.int .i64 x).wf = true)) 3 (by kernel_rfl) rfl (by kernel_rfl) (open_int Tryd.underlying3) (open_last (P := Tryd.prog) (off := 3) (k := (Knd.int .i64)) (V := fun x : Int => (Lit.int .i64 x).wf = true) rfl (by kernel_rfl) (open_int Tryd.underlying3))))))) (by intro a h; exact h)
set_option maxRecDepth 100000 in
theorem o85 : OpenK Tryd.prog 85 kAct VAct :=
  open_imp (open_iso (V := (fun x : Int × Int × Int × Int × Bool × (List DSite) => ((Lit.int .i64 x.1).wf = true ∧ ((Lit.int .i64 x.2.1).wf = true ∧ ((Lit.int .i64 x.2.2.1).wf = true ∧ ((Lit.int .i64 x.2.2.2.1).wf = true ∧ (True ∧ (x.2.2.2.2.2.length ≤ maxLen ∧ ∀ y ∈ x.2.2.2.2.2, VSite y)))))))) (fun x : DAct => (x.kind, x.a, x.b, x.lay, x.bare, x.sites)) (fun x => ⟨x.1, x.2.1, x.2.2.1, x.2.2.2.1, x.2.2.2.2.1, x.2.2.2.2.2⟩) (fun _ => rfl) (open_struct Tryd.underlying85 (by kernel_rfl) (open_cons (P := Tryd.prog) (off := 0) (k := (Knd.int .i64)) (V := fun x : Int => (Lit.int .i64 x).wf = true) (V' := (fun x : Int × Int × Int × Bool × (List DSite) => ((Lit.int .i64 x.1).wf = true ∧ ((Lit.int .i64 x.2.1).wf = true ∧ ((Lit.int .i64 x.2.2.1).wf = true ∧ (True ∧ (x.2.2.2.2.length ≤ maxLen ∧ ∀ y ∈ x.2.2.2.2, VSite y))))))) 1 (by kernel_rfl) rfl (by kernel_rfl) (open_int Tryd.underlying3) (open_cons (P := Tryd.prog) (off := 1) (k := (Knd.int .i64)) (V := fun x : Int => (Lit.int .i64 x).wf = true) (V' := (fun x : Int × Int × Bool × (List DSite) => ((Lit.int .i64 x.1).wf = true ∧ ((Lit.int .i64 x.2.1).wf = true ∧ (True ∧ (x.2.2.2.length ≤ maxLen ∧ ∀ y ∈ x.2.2.2, VSite y)))))) 2 (by kernel_rfl) rfl (by kernel_rfl) (open_int Tryd.underlying3) (open_cons (P := Tryd.prog) (off := 2) (k := (Knd.int .i64)) (V := fun x : Int => (Lit.int .i64 x).wf = true) (V' := (fun x : Int × Bool × (List DSite) => ((Lit.int .i64 x.1).wf = true ∧ (True ∧ (x.2.2.length ≤ maxLen ∧ ∀ y ∈ x.2.2, VSite y))))) 3 (by kernel_rfl) rfl (by kernel_rfl) (open_int Tryd.underlying3) (open_cons (P := Tryd.prog) (off := 3) (k := (Knd.int .i64)) (V := fun x : Int => (Lit.int .i64 x).wf = true) (V' := (fun x : Bool × (List DSite) => (True ∧ (x.2.length ≤ maxLen ∧ ∀ y ∈ x.2, VSite y)))) 4 (by kernel_rfl) rfl (by kernel_rfl) (open_int Tryd.underlying3) (open_cons (P := Tryd.prog) (off := 4) (k := Knd.bool) (V := fun x : Bool => True) (V' := (fun x : (List DSite) => (x.length ≤ maxLen ∧ ∀ y ∈ x, VSite y))) 5 (by kernel_rfl) rfl (by kernel_rfl) (open_bool Tryd.underlying4) (open_last (P := Tryd.prog) (off := 5) (k := (Knd.slice 140 kSite)) (V := fun x : List DSite => (x.length ≤ maxLen ∧ ∀ y ∈ x, VSite y)) rfl (by kernel_rfl) (Open.open_row (E := 140) Tryd.underlying83 (by kernel_rfl) o140))))))))) (by intro a h; exact h)
set_option maxRecDepth 100000 in
theorem lifted (os : Os) (started : os.Started) (H : Type) (enc : TypeId × Value → H) :
    ReturnsInHanded {} Tryd.checked os 6 .any (fun w args => (Rows.fnExactScriptTextSpec.pre enc Tryd.prog Tryd.f6 Rows.fnExactScriptTextRow.domain false w args ∧ laidMetH Tryd.prog Rows.fnExactScriptTextRow.laid w) ∧ sizedMet enc Tryd.prog Tryd.f6 (OpenSpec.ofChange Rows.fnExactScriptTextSpec) false w args) (Rows.fnExactScriptTextSpec.post enc Tryd.prog Tryd.f6 false true false false) := by
  refine returnsInHanded_of_change_and (C := Tryd.checked) (X := fun w _ => laidMetH Tryd.prog Rows.fnExactScriptTextRow.laid w) (fun _ _ _ hh h => h.of_heap hh) own started (by kernel_rfl) Tryd.func6
    (ChangeSpec.witness_shaped (enc := enc) (C := Tryd.checked) (os := os) (X := fun w _ => laidMetH Tryd.prog Rows.fnExactScriptTextRow.laid w) false (World.doorLaid Tryd.prog 400 os) #[.slice none 0 0] 8 rfl (World.shaped_of_RefB (by kernel_rfl) (by kernel_rfl)) (by kernel_rfl) (by kernel_rfl) (by kernel_rfl) (door_met os _)) ?_
  intro W base args ds gs before hval0 hW hcnd hsz0 hL _
  have hval : ∀ (j : Nat) t v, Tryd.f6.params[j]? = some t → args[j]? = some v → Value.okWide Tryd.prog W .any base t v := hval0
  have hW' := hW
  obtain ⟨p, q, hA0, hV, rfl, hfz, hnd⟩ := hW
  have hA : DataW.TrodAll enc Tryd.prog W 0 (fun _ => true) true Tryd.f6.params.toList args.toList ds p := hA0
  rw [Tryd.params6] at hA hval
  obtain ⟨v0, vs0, d0, ds0, p0, q0, hargs, rfl, rfl, h0, r0⟩ := trodAll_cons hA
  obtain ⟨rfl, rfl, rfl⟩ := trodAll_nil r0
  obtain rfl : args = #[v0] := by cases args; simp_all
  obtain ⟨rfl, rfl⟩ := trodVars_none hV
  have k0' := h0
  have lt0 : ∀ x ∈ p0, x.block < W.heap.size := by obtain ⟨m, hm⟩ := k0'; exact DataW.trod_lt m _ _ _ hm
  obtain ⟨a0, len0, cap0, rfl⟩ := okWide_slice Tryd.underlying46 (hval 0 46 v0 rfl rfl)
  obtain ⟨l0, ⟨A0, c0, e0, hc0, hr0⟩, w0⟩ := OpenK.at_ (Open.open_row (E := 85) Tryd.underlying46 (by kernel_rfl) o85) h0
  have e0' : [Value.slice a0 len0 cap0] = [.slice A0 l0.length c0] := e0
  simp only [List.cons.injEq, Value.slice.injEq, and_true] at e0'
  obtain ⟨rfl, rfl, rfl⟩ := e0'
  refine (Go.Proofs.YtpjdecneeakkeaaDoor.Dat.lawScriptText l0 W hr0 hc0 w0 (tabOf hL)).mono fun e W' ⟨he, bel⟩ => ?_
  subst he
  exact ⟨_, rfl, _, _, _, [], _, [], hW', trodAll_mk1 (shut_bool Tryd.underlying4 _), (trodAll_cons_mk (Below.trod laidOut (by kernel_rfl) (of_decide_eq_true (by kernel_rfl)) k0' bel lt0) trodAll_mk0), rfl, bel.frame _, fun h => by cases h⟩
set_option maxHeartbeats 4000000 in
theorem over : Rows.fnExactScriptTextRow.holds Tryd.pinned (OpenSpec.ofChange Rows.fnExactScriptTextSpec) :=
  OpenClaim.holds_of_wide 6 Tryd.f6 rfl rfl rfl rfl rfl rfl rfl ⟨rfl, rfl, rfl, rfl, rfl⟩ rfl rfl rfl rfl rfl (by as_aux_lemma => kernel_rfl) Tryd.func6 (by as_aux_lemma => kernel_rfl)
    (of_decide_eq_true (by as_aux_lemma => kernel_rfl)) (by unfold Func.isWrapper; first | (rw [if_pos (by decide +kernel)]; kernel_rfl) | (rw [if_neg (by decide +kernel)]; exact ⟨rfl, rfl⟩))
    (fun os started H enc _ => lifted os started H enc)
theorem proved : Rows.FnExactScriptTextSaid := over
#print axioms proved
end Go.Proofs.YtpjdecneeakkeaaDoor.fnExactScriptText
namespace Go.Proofs.YtpjdecneeakkeaaDoor
open Go Go.RowKit
theorem fnExactScriptTextCard_holds : Rows.FnExactScriptTextCardSaid :=
  Claim7.holds_tied_plain_at .later [] [.data, .data, .data] true (true, "b09b9adfe7580327ac1b6ad771706e087741053aeb9354d35fa09b195e8b3f8f") false
    fnExactScriptText.proved (fun _ h => by cases h) (by kernel_rfl) (fun _ h => by cases h) fnExactScriptText_row_tie rfl ⟨rfl, rfl⟩ (by kernel_rfl) rfl
    (fun f fn hf hfn => by
      obtain rfl : f = 6 := Option.some.inj ((show Tryd.prog.funcNamed "loop.example/g00094/laws.FnExactScriptText" = some 6 by kernel_rfl).symm.trans hf) |>.symm
      obtain rfl : fn = Tryd.f6 := (Option.some.inj (Tryd.func6.symm.trans hfn)).symm
      exact ⟨by kernel_rfl, fun j t ht => by
        rw [Tryd.params6] at ht
        have hm : t ∈ [46] := by simpa using Array.mem_of_getElem? ht
        have hall : ([46].all fun u => !Tryd.prog.wantsStandIn u) = true := by kernel_rfl
        exact (show Tryd.prog.wantsStandIn t = false by simpa using List.all_eq_true.1 hall t hm)⟩)
    (by kernel_rfl)
#print axioms fnExactScriptTextCard_holds
end Go.Proofs.YtpjdecneeakkeaaDoor
