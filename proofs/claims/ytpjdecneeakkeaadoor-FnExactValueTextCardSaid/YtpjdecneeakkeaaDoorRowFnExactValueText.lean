/- FnExactValueText: for every input the law returns true and each argument reads behind the call as it read before; no condition. -/
import Derived.Test.YtpjdecneeakkeaaDoorCards
import Derived.Test.YtpjdecneeakkeaaDoorTie
import Derived.SevenTiedAt
import Derived.Test.YtpjdecneeakkeaaDoorRows
import Derived.Test.YtpjdecneeakkeaaDoorLValueText
import Derived.Test.YtpjdecneeakkeaaDoorK1
import Derived.LaidMore
import Derived.Stop.Joined
import Derived.Lib.LaidTab
import Derived.Lib.ItoaNum
import Derived.Stop.LaidErr
import Derived.MakeChecks
import Derived.OpenVars
import Derived.LaidHandle
import Derived.WalkKit
import Derived.ProofKit
import Derived.OpenShut
import Derived.ShutString
import Derived.ChangeOld
import Derived.Below
import Derived.SizedLaws
import Derived.ChangeMaps5
namespace Go.Proofs.YtpjdecneeakkeaaDoor.fnExactValueText
open Go.ChangeShapes Go.WideShapes Go.ChangeAt Go.RowKit Go.Proofs.YtpjdecneeakkeaaDoor.Open Go.Proofs.YtpjdecneeakkeaaDoor.Mem Go.Proofs.YtpjdecneeakkeaaDoor.Dat
open Go.ChangeMaps (shut_string)
set_option linter.unusedVariables false
set_option linter.unusedSimpArgs false
theorem own : ownKnob Tryd.prog.godebug = none := by kernel_rfl
theorem laidOut : laidOutB Tryd.prog = true := by kernel_rfl
theorem door_met (os : Os) (args : Array Value) : laidMetH Tryd.prog Rows.fnExactValueTextRow.laid ((World.doorLaid Tryd.prog 400 os).forCall (fun _ _ => 0) ⟨#[], args, []⟩).memory :=
  laidMetH_of_parts3 (fuel := 8) (laidMet_of_run' 8 (by kernel_rfl) (by kernel_rfl)) (by kernel_rfl) (by kernel_rfl)
theorem plainL : laidMetH Tryd.prog Rows.fnExactValueTextRow.laid = laidMet Tryd.prog Rows.fnExactValueTextRow.laid := funext fun w => MakeChecks.laidMetH_plain _ _ _ (by kernel_rfl)
theorem tabOf {W : World} (h : laidMetH Tryd.prog Rows.fnExactValueTextRow.laid W) : Lib.TabIs Tryd.prog W "internal/strconv.uint64pow10" .u64 Lib.pow10Tab := by
  rw [plainL] at h
  exact Lib.tabIs_of_head (zs := Lib.pow10Tab) (g := 1) (t := 158) (e := 150) (n := 20) (by kernel_rfl) (by kernel_rfl) Tryd.underlying158 Tryd.underlying150 (by kernel_rfl) (by kernel_rfl) (h.tail.tail : laidMet Tryd.prog ((_, Lib.tabData .u64 Lib.pow10Tab) :: _) W)
set_option maxRecDepth 100000 in
theorem o35t : OpenK Tryd.prog 35 (Knd.pair (Knd.int .i64) (Knd.pair (Knd.int .i64) Knd.str)) (fun x : Int × Int × ByteArray => ((Lit.int .i64 x.1).wf = true ∧ ((Lit.int .i64 x.2.1).wf = true ∧ x.2.2.size ≤ maxLen))) :=
  open_struct Tryd.underlying35 (by kernel_rfl) (open_cons (P := Tryd.prog) (off := 0) (k := (Knd.int .i64)) (V := fun x : Int => (Lit.int .i64 x).wf = true) (V' := (fun x : Int × ByteArray => ((Lit.int .i64 x.1).wf = true ∧ x.2.size ≤ maxLen))) 1 (by kernel_rfl) rfl (by kernel_rfl) (open_int Tryd.underlying3) (open_cons (P := Tryd.prog) (off := 1) (k := (Knd.int .i64)) (V := fun x : Int => (Lit.int .i64 x).wf = true) (V' := (fun x : ByteArray => x.size ≤ maxLen)) 2 (by kernel_rfl) rfl (by kernel_rfl) (open_int Tryd.underlying3) (open_last (P := Tryd.prog) (off := 2) (k := Knd.str) (V := fun x : ByteArray => x.size ≤ maxLen) rfl (by kernel_rfl) (open_str Tryd.underlying9))))
set_option maxRecDepth 100000 in
theorem o35 : OpenK Tryd.prog 35 kValue VValue :=
  open_imp (open_iso (V := (fun x : Int × Int × ByteArray => ((Lit.int .i64 x.1).wf = true ∧ ((Lit.int .i64 x.2.1).wf = true ∧ x.2.2.size ≤ maxLen)))) (fun x : DValue => (x.k, x.n, x.s)) (fun x => ⟨x.1, x.2.1, x.2.2⟩) (fun _ => rfl) (open_struct Tryd.underlying35 (by kernel_rfl) (open_cons (P := Tryd.prog) (off := 0) (k := (Knd.int .i64)) (V := fun x : Int => (Lit.int .i64 x).wf = true) (V' := (fun x : Int × ByteArray => ((Lit.int .i64 x.1).wf = true ∧ x.2.size ≤ maxLen))) 1 (by kernel_rfl) rfl (by kernel_rfl) (open_int Tryd.underlying3) (open_cons (P := Tryd.prog) (off := 1) (k := (Knd.int .i64)) (V := fun x : Int => (Lit.int .i64 x).wf = true) (V' := (fun x : ByteArray => x.size ≤ maxLen)) 2 (by kernel_rfl) rfl (by kernel_rfl) (open_int Tryd.underlying3) (open_last (P := Tryd.prog) (off := 2) (k := Knd.str) (V := fun x : ByteArray => x.size ≤ maxLen) rfl (by kernel_rfl) (open_str Tryd.underlying9)))))) (by intro a h; exact h)
set_option maxRecDepth 100000 in
theorem o74 : OpenK Tryd.prog 74 kRec VRec :=
  open_imp (open_iso (V := (fun x : (List DValue) => (x.length ≤ maxLen ∧ ∀ y ∈ x, VValue y))) (fun x : DRec => (x.fields)) (fun x => ⟨x⟩) (fun _ => rfl) (open_struct Tryd.underlying74 (by kernel_rfl) (open_last (P := Tryd.prog) (off := 0) (k := (Knd.slice 35 kValue)) (V := fun x : List DValue => (x.length ≤ maxLen ∧ ∀ y ∈ x, VValue y)) rfl (by kernel_rfl) (Open.open_row (E := 35) Tryd.underlying72 (by kernel_rfl) o35)))) (by intro a h; exact h)
set_option maxRecDepth 100000 in
theorem lifted (os : Os) (started : os.Started) (H : Type) (enc : TypeId × Value → H) :
    ReturnsInHanded {} Tryd.checked os 5 .any (fun w args => (Rows.fnExactValueTextSpec.pre enc Tryd.prog Tryd.f5 Rows.fnExactValueTextRow.domain false w args ∧ laidMetH Tryd.prog Rows.fnExactValueTextRow.laid w) ∧ sizedMet enc Tryd.prog Tryd.f5 (OpenSpec.ofChange Rows.fnExactValueTextSpec) false w args) (Rows.fnExactValueTextSpec.post enc Tryd.prog Tryd.f5 false true false false) := by
  refine returnsInHanded_of_change_and (C := Tryd.checked) (X := fun w _ => laidMetH Tryd.prog Rows.fnExactValueTextRow.laid w) (fun _ _ _ hh h => h.of_heap hh) own started (by kernel_rfl) Tryd.func5
    (ChangeSpec.witness_shaped (enc := enc) (C := Tryd.checked) (os := os) (X := fun w _ => laidMetH Tryd.prog Rows.fnExactValueTextRow.laid w) false (World.doorLaid Tryd.prog 400 os) #[.agg #[.int .i64 0, .int .i64 0, .string ByteArray.empty], .slice none 0 0] 8 rfl (World.shaped_of_RefB (by kernel_rfl) (by kernel_rfl)) (by kernel_rfl) (by kernel_rfl) (by kernel_rfl) (door_met os _)) ?_
  intro W base args ds gs before hval0 hW hcnd hsz0 hL _
  have hval : ∀ (j : Nat) t v, Tryd.f5.params[j]? = some t → args[j]? = some v → Value.okWide Tryd.prog W .any base t v := hval0
  have hW' := hW
  obtain ⟨p, q, hA0, hV, rfl, hfz, hnd⟩ := hW
  have hA : DataW.TrodAll enc Tryd.prog W 0 (fun _ => true) true Tryd.f5.params.toList args.toList ds p := hA0
  rw [Tryd.params5] at hA hval
  obtain ⟨v0, vs0, d0, ds0, p0, q0, hargs, rfl, rfl, h0, r0⟩ := trodAll_cons hA
  obtain ⟨v1, vs1, d1, ds1, p1, q1, rfl, rfl, rfl, h1, r1⟩ := trodAll_cons r0
  obtain ⟨rfl, rfl, rfl⟩ := trodAll_nil r1
  obtain rfl : args = #[v0, v1] := by cases args; simp_all
  obtain ⟨rfl, rfl⟩ := trodVars_none hV
  have k0' := h0
  have lt0 : ∀ x ∈ p0, x.block < W.heap.size := by obtain ⟨m, hm⟩ := k0'; exact DataW.trod_lt m _ _ _ hm
  obtain ⟨cs0, rfl, _⟩ := okWide_struct Tryd.underlying35 (hval 0 35 v0 rfl rfl)
  obtain ⟨⟨a0_0, a0_1, a0_2⟩, K0, w0⟩ := OpenK.at_ o35t h0
  obtain ⟨_, _, x0_0, rfl, ⟨_, _, x0_1, rfl, rfl⟩⟩ := K0
  have xx0 : cs0.toList = _ := x0_0
  simp only [x0_1, List.cons_append, List.nil_append] at xx0
  obtain rfl : cs0 = #[.int .i64 a0_0, .int .i64 a0_1, .string a0_2] := by cases cs0; simp_all
  have k1' := h1
  have lt1 : ∀ x ∈ p1, x.block < W.heap.size := by obtain ⟨m, hm⟩ := k1'; exact DataW.trod_lt m _ _ _ hm
  obtain ⟨a1, len1, cap1, rfl⟩ := okWide_slice Tryd.underlying36 (hval 1 36 v1 rfl rfl)
  obtain ⟨l1, ⟨A1, c1, e1, hc1, hr1⟩, w1⟩ := OpenK.at_ (Open.open_row (E := 74) Tryd.underlying36 (by kernel_rfl) o74) h1
  have e1' : [Value.slice a1 len1 cap1] = [.slice A1 l1.length c1] := e1
  simp only [List.cons.injEq, Value.slice.injEq, and_true] at e1'
  obtain ⟨rfl, rfl, rfl⟩ := e1'
  refine (Go.Proofs.YtpjdecneeakkeaaDoor.Dat.lawValueText a0_0 a0_1 a0_2 l1 W hr1 hc1 (w0.1) (w0.2.1) (w0.2.2) w1 (tabOf hL)).mono fun e W' ⟨he, bel⟩ => ?_
  subst he
  exact ⟨_, rfl, _, _, _, [], _, [], hW', trodAll_mk1 (shut_bool Tryd.underlying4 _), (trodAll_cons_mk (Below.trod laidOut (by kernel_rfl) (of_decide_eq_true (by kernel_rfl)) k0' bel lt0) (trodAll_cons_mk (Below.trod laidOut (by kernel_rfl) (of_decide_eq_true (by kernel_rfl)) k1' bel lt1) trodAll_mk0)), rfl, bel.frame _, fun h => by cases h⟩
theorem over : Rows.fnExactValueTextRow.holds Tryd.pinned (OpenSpec.ofChange Rows.fnExactValueTextSpec) :=
  OpenClaim.holds_of_wide 5 Tryd.f5 rfl rfl rfl rfl rfl rfl rfl ⟨rfl, rfl, rfl, rfl, rfl⟩ rfl rfl rfl rfl rfl (by kernel_rfl) Tryd.func5 (by kernel_rfl)
    (of_decide_eq_true (by kernel_rfl)) (by unfold Func.isWrapper; first | (rw [if_pos (by decide +kernel)]; kernel_rfl) | (rw [if_neg (by decide +kernel)]; exact ⟨rfl, rfl⟩))
    (fun os started H enc _ => lifted os started H enc)
theorem proved : Rows.FnExactValueTextSaid := over
#print axioms proved
end Go.Proofs.YtpjdecneeakkeaaDoor.fnExactValueText
namespace Go.Proofs.YtpjdecneeakkeaaDoor
open Go Go.RowKit
theorem fnExactValueTextCard_holds : Rows.FnExactValueTextCardSaid :=
  Claim7.holds_tied_plain_at .later [] [.data, .data, .data] true (true, "b09b9adfe7580327ac1b6ad771706e087741053aeb9354d35fa09b195e8b3f8f") false
    fnExactValueText.proved (fun _ h => by cases h) (by kernel_rfl) (fun _ h => by cases h) fnExactValueText_row_tie rfl ⟨rfl, rfl⟩ (by kernel_rfl) rfl
    (fun f fn hf hfn => by
      obtain rfl : f = 5 := Option.some.inj ((show Tryd.prog.funcNamed "loop.example/g00094/laws.FnExactValueText" = some 5 by kernel_rfl).symm.trans hf) |>.symm
      obtain rfl : fn = Tryd.f5 := (Option.some.inj (Tryd.func5.symm.trans hfn)).symm
      exact ⟨by kernel_rfl, fun j t ht => by
        rw [Tryd.params5] at ht
        have hm : t ∈ [35, 36] := by simpa using Array.mem_of_getElem? ht
        have hall : ([35, 36].all fun u => !Tryd.prog.wantsStandIn u) = true := by kernel_rfl
        exact (show Tryd.prog.wantsStandIn t = false by simpa using List.all_eq_true.1 hall t hm)⟩)
    (by kernel_rfl)
#print axioms fnExactValueTextCard_holds
end Go.Proofs.YtpjdecneeakkeaaDoor
