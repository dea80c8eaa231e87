/- FnExactShowModule: for every input the law returns true and each argument reads behind the call as it read before; no condition. -/
import Derived.Test.YtpjdecneeakkeaaDoorCards
import Derived.Test.YtpjdecneeakkeaaDoorTie
import Derived.SevenTiedAt
import Derived.Test.YtpjdecneeakkeaaDoorRows
import Derived.Test.YtpjdecneeakkeaaDoorLShowModule
import Derived.Test.YtpjdecneeakkeaaDoorK1
import Derived.LaidMore
import Derived.Stop.Joined
import Derived.Lib.LaidTab
import Derived.Lib.ItoaNum
import Derived.Stop.LaidErr
import Derived.MakeChecks
import Derived.OpenVars
import Derived.LaidHandle
import Derived.WalkKit
import Derived.ProofKit
import Derived.OpenShut
import Derived.ShutString
import Derived.ChangeOld
import Derived.Below
import Derived.SizedLaws
import Derived.ChangeMaps5
namespace Go.Proofs.YtpjdecneeakkeaaDoor.fnExactShowModule
open Go.ChangeShapes Go.WideShapes Go.ChangeAt Go.RowKit Go.Proofs.YtpjdecneeakkeaaDoor.Open Go.Proofs.YtpjdecneeakkeaaDoor.Mem Go.Proofs.YtpjdecneeakkeaaDoor.Dat
open Go.ChangeMaps (shut_string)
set_option linter.unusedVariables false
set_option linter.unusedSimpArgs false
theorem own : ownKnob Tryd.prog.godebug = none := by kernel_rfl
theorem laidOut : laidOutB Tryd.prog = true := by kernel_rfl
theorem door_met (os : Os) (args : Array Value) : laidMetH Tryd.prog Rows.fnExactShowModuleRow.laid ((World.doorLaid Tryd.prog 400 os).forCall (fun _ _ => 0) ⟨#[], args, []⟩).memory :=
  laidMetH_of_parts3 (fuel := 8) (laidMet_of_run' 8 (by kernel_rfl) (by kernel_rfl)) (by kernel_rfl) (by kernel_rfl)
theorem plainL : laidMetH Tryd.prog Rows.fnExactShowModuleRow.laid = laidMet Tryd.prog Rows.fnExactShowModuleRow.laid := funext fun w => MakeChecks.laidMetH_plain _ _ _ (by kernel_rfl)
theorem tabOf {W : World} (h : laidMetH Tryd.prog Rows.fnExactShowModuleRow.laid W) : Lib.TabIs Tryd.prog W "internal/strconv.uint64pow10" .u64 Lib.pow10Tab := by
  rw [plainL] at h
  exact Lib.tabIs_of_head (zs := Lib.pow10Tab) (g := 1) (t := 158) (e := 150) (n := 20) (by kernel_rfl) (by kernel_rfl) Tryd.underlying158 Tryd.underlying150 (by kernel_rfl) (by kernel_rfl) (h.tail.tail : laidMet Tryd.prog ((_, Lib.tabData .u64 Lib.pow10Tab) :: _) W)
theorem wordsOf {W : World} (h : laidMetH Tryd.prog Rows.fnExactShowModuleRow.laid W) : Go.Proofs.YtpjdecneeakkeaaDoor.Dat.Words W := by
  rw [plainL] at h
  exact Go.Proofs.YtpjdecneeakkeaaDoor.Dat.words_of_head (t := 69) (e := 9) (by kernel_rfl) (by kernel_rfl) Tryd.underlying69 Tryd.underlying9 (by kernel_rfl) (by kernel_rfl) (h.tail.tail.tail : laidMet Tryd.prog ((_, Go.Proofs.YtpjdecneeakkeaaDoor.Dat.wordsData) :: _) W)
set_option maxRecDepth 100000 in
theorem o23 : OpenK Tryd.prog 23 kIns VIns :=
  open_imp (open_iso (V := (fun x : Int × Int => ((Lit.int .i64 x.1).wf = true ∧ (Lit.int .i64 x.2).wf = true))) (fun x : DIns => (x.op, x.a)) (fun x => ⟨x.1, x.2⟩) (fun _ => rfl) (open_struct Tryd.underlying23 (by kernel_rfl) (open_cons (P := Tryd.prog) (off := 0) (k := (Knd.int .i64)) (V := fun x : Int => (Lit.int .i64 x).wf = true) (V' := (fun x : Int => (Lit.int .i64 x).wf = true)) 1 (by kernel_rfl) rfl (by kernel_rfl) (open_int Tryd.underlying3) (open_last (P := Tryd.prog) (off := 1) (k := (Knd.int .i64)) (V := fun x : Int => (Lit.int .i64 x).wf = true) rfl (by kernel_rfl) (open_int Tryd.underlying3))))) (by intro a h; exact h)
set_option maxRecDepth 100000 in
theorem o127 : OpenK Tryd.prog 127 kFunc VFunc :=
  open_imp (open_iso (V := (fun x : Int × Int × (List DIns) => ((Lit.int .i64 x.1).wf = true ∧ ((Lit.int .i64 x.2.1).wf = true ∧ (x.2.2.length ≤ maxLen ∧ ∀ y ∈ x.2.2, VIns y))))) (fun x : DFunc => (x.params, x.locals, x.code)) (fun x => ⟨x.1, x.2.1, x.2.2⟩) (fun _ => rfl) (open_struct Tryd.underlying127 (by kernel_rfl) (open_cons (P := Tryd.prog) (off := 0) (k := (Knd.int .i64)) (V := fun x : Int => (Lit.int .i64 x).wf = true) (V' := (fun x : Int × (List DIns) => ((Lit.int .i64 x.1).wf = true ∧ (x.2.length ≤ maxLen ∧ ∀ y ∈ x.2, VIns y)))) 1 (by kernel_rfl) rfl (by kernel_rfl) (open_int Tryd.underlying3) (open_cons (P := Tryd.prog) (off := 1) (k := (Knd.int .i64)) (V := fun x : Int => (Lit.int .i64 x).wf = true) (V' := (fun x : (List DIns) => (x.length ≤ maxLen ∧ ∀ y ∈ x, VIns y))) 2 (by kernel_rfl) rfl (by kernel_rfl) (open_int Tryd.underlying3) (open_last (P := Tryd.prog) (off := 2) (k := (Knd.slice 23 kIns)) (V := fun x : List DIns => (x.length ≤ maxLen ∧ ∀ y ∈ x, VIns y)) rfl (by kernel_rfl) (Open.open_row (E := 23) Tryd.underlying125 (by kernel_rfl) o23)))))) (by intro a h; exact h)
set_option maxRecDepth 100000 in
theorem o56t : OpenK Tryd.prog 56 (Knd.pair (Knd.slice 9 Knd.str) (Knd.slice 127 kFunc)) (fun x : (List ByteArray) × (List DFunc) => ((x.1.length ≤ maxLen ∧ ∀ y ∈ x.1, y.size ≤ maxLen) ∧ (x.2.length ≤ maxLen ∧ ∀ y ∈ x.2, VFunc y))) :=
  open_struct Tryd.underlying56 (by kernel_rfl) (open_cons (P := Tryd.prog) (off := 0) (k := (Knd.slice 9 Knd.str)) (V := fun x : List ByteArray => (x.length ≤ maxLen ∧ ∀ y ∈ x, y.size ≤ maxLen)) (V' := (fun x : (List DFunc) => (x.length ≤ maxLen ∧ ∀ y ∈ x, VFunc y))) 1 (by kernel_rfl) rfl (by kernel_rfl) (Open.open_row (E := 9) Tryd.underlying53 (by kernel_rfl) (open_str Tryd.underlying9)) (open_last (P := Tryd.prog) (off := 1) (k := (Knd.slice 127 kFunc)) (V := fun x : List DFunc => (x.length ≤ maxLen ∧ ∀ y ∈ x, VFunc y)) rfl (by kernel_rfl) (Open.open_row (E := 127) Tryd.underlying54 (by kernel_rfl) o127)))
set_option maxRecDepth 100000 in
theorem lifted (os : Os) (started : os.Started) (H : Type) (enc : TypeId × Value → H) :
    ReturnsInHanded {} Tryd.checked os 7 .any (fun w args => (Rows.fnExactShowModuleSpec.pre enc Tryd.prog Tryd.f7 Rows.fnExactShowModuleRow.domain false w args ∧ laidMetH Tryd.prog Rows.fnExactShowModuleRow.laid w) ∧ sizedMet enc Tryd.prog Tryd.f7 (OpenSpec.ofChange Rows.fnExactShowModuleSpec) false w args) (Rows.fnExactShowModuleSpec.post enc Tryd.prog Tryd.f7 false true false false) := by
  refine returnsInHanded_of_change_and (C := Tryd.checked) (X := fun w _ => laidMetH Tryd.prog Rows.fnExactShowModuleRow.laid w) (fun _ _ _ hh h => h.of_heap hh) own started (by kernel_rfl) Tryd.func7
    (ChangeSpec.witness_shaped (enc := enc) (C := Tryd.checked) (os := os) (X := fun w _ => laidMetH Tryd.prog Rows.fnExactShowModuleRow.laid w) false (World.doorLaid Tryd.prog 400 os) #[.agg #[.slice none 0 0, .slice none 0 0]] 8 rfl (World.shaped_of_RefB (by kernel_rfl) (by kernel_rfl)) (by kernel_rfl) (by kernel_rfl) (by kernel_rfl) (door_met os _)) ?_
  intro W base args ds gs before hval0 hW hcnd hsz0 hL _
  have hval : ∀ (j : Nat) t v, Tryd.f7.params[j]? = some t → args[j]? = some v → Value.okWide Tryd.prog W .any base t v := hval0
  have hW' := hW
  obtain ⟨p, q, hA0, hV, rfl, hfz, hnd⟩ := hW
  have hA : DataW.TrodAll enc Tryd.prog W 0 (fun _ => true) true Tryd.f7.params.toList args.toList ds p := hA0
  rw [Tryd.params7] at hA hval
  obtain ⟨v0, vs0, d0, ds0, p0, q0, hargs, rfl, rfl, h0, r0⟩ := trodAll_cons hA
  obtain ⟨rfl, rfl, rfl⟩ := trodAll_nil r0
  obtain rfl : args = #[v0] := by cases args; simp_all
  obtain ⟨gv, tv, csv, fuelv, dv, pv, rfl, hv1, hv2, hv3, hv4, _⟩ := trodVars_one hV
  have k0' := h0
  have lt0 : ∀ x ∈ p0, x.block < W.heap.size := by obtain ⟨m, hm⟩ := k0'; exact DataW.trod_lt m _ _ _ hm
  obtain ⟨cs0, rfl, _⟩ := okWide_struct Tryd.underlying56 (hval 0 56 v0 rfl rfl)
  obtain ⟨⟨l0_0, l0_1⟩, K0, w0⟩ := OpenK.at_ o56t h0
  obtain ⟨_, _, x0_0, ⟨A0_0, c0_0, rfl, hc0_0, hr0_0⟩, ⟨A0_1, c0_1, rfl, hc0_1, hr0_1⟩⟩ := K0
  have xx0 : cs0.toList = _ := x0_0
  simp only [List.cons_append, List.nil_append] at xx0
  obtain rfl : cs0 = #[.slice A0_0 l0_0.length c0_0, .slice A0_1 l0_1.length c0_1] := by cases cs0; simp_all
  refine (Go.Proofs.YtpjdecneeakkeaaDoor.Dat.lawShowModule l0_0 l0_1 W hr0_0 hc0_0 hr0_1 hc0_1 (w0.1) (w0.2) (tabOf hL) (wordsOf hL)).mono fun e W' ⟨he, bel⟩ => ?_
  subst he
  exact ⟨_, rfl, _, _, _, [], _, _, hW', trodAll_mk1 (shut_bool Tryd.underlying4 _), (trodAll_cons_mk (Below.trod laidOut (by kernel_rfl) (of_decide_eq_true (by kernel_rfl)) k0' bel lt0) trodAll_mk0), Below.trodVars laidOut bel (by kernel_rfl) hV, bel.frame _, fun h => by cases h⟩
theorem over : Rows.fnExactShowModuleRow.holds Tryd.pinned (OpenSpec.ofChange Rows.fnExactShowModuleSpec) :=
  OpenClaim.holds_of_wide 7 Tryd.f7 rfl rfl rfl rfl rfl rfl rfl ⟨rfl, rfl, rfl, rfl, rfl⟩ rfl rfl rfl rfl rfl (by kernel_rfl) Tryd.func7 (by kernel_rfl)
    (of_decide_eq_true (by kernel_rfl)) (by unfold Func.isWrapper; first | (rw [if_pos (by decide +kernel)]; kernel_rfl) | (rw [if_neg (by decide +kernel)]; exact ⟨rfl, rfl⟩))
    (fun os started H enc _ => lifted os started H enc)
theorem proved : Rows.FnExactShowModuleSaid := over
#print axioms proved
end Go.Proofs.YtpjdecneeakkeaaDoor.fnExactShowModule
namespace Go.Proofs.YtpjdecneeakkeaaDoor
open Go Go.RowKit
theorem fnExactShowModuleCard_holds : Rows.FnExactShowModuleCardSaid :=
  Claim7.holds_tied_plain_at .later [] [.data, .data, .data, .widerDeep] true (true, "b09b9adfe7580327ac1b6ad771706e087741053aeb9354d35fa09b195e8b3f8f") false
    fnExactShowModule.proved (fun _ h => by cases h) (by kernel_rfl) (fun _ h => by cases h) fnExactShowModule_row_tie rfl ⟨rfl, rfl⟩ (by kernel_rfl) rfl
    (fun f fn hf hfn => by
      obtain rfl : f = 7 := Option.some.inj ((show Tryd.prog.funcNamed "loop.example/g00094/laws.FnExactShowModule" = some 7 by kernel_rfl).symm.trans hf) |>.symm
      obtain rfl : fn = Tryd.f7 := (Option.some.inj (Tryd.func7.symm.trans hfn)).symm
      exact ⟨by kernel_rfl, fun j t ht => by
        rw [Tryd.params7] at ht
        have hm : t ∈ [56] := by simpa using Array.mem_of_getElem? ht
        have hall : ([56].all fun u => !Tryd.prog.wantsStandIn u) = true := by kernel_rfl
        exact (show Tryd.prog.wantsStandIn t = false by simpa using List.all_eq_true.1 hall t hm)⟩)
    (by kernel_rfl)
#print axioms fnExactShowModuleCard_holds
end Go.Proofs.YtpjdecneeakkeaaDoor
