/- FnExactMulOf: for every input the law returns true and each argument reads behind the call as it read before; no condition. -/
import Derived.Test.YtkllanigogkbiaaRows
import Derived.Test.YtkllanigogkbiaaValLaws
import Derived.Test.YtkllanigogkbiaaOpen
import Derived.WalkKit
import Derived.ProofKit
import Derived.OpenShut
import Derived.ShutString
import Derived.ChangeOld
import Derived.Below
import Derived.SizedLaws
import Derived.ChangeMaps5
namespace Go.Proofs.Ytkllanigogkbiaa.fnExactMulOf
open Go.ChangeShapes Go.WideShapes Go.ChangeAt Go.RowKit Go.Proofs.Ytkllanigogkbiaa.Open Go.Proofs.Ytkllanigogkbiaa.Mem
open Go.ChangeMaps (shut_string)
set_option linter.unusedVariables false
set_option linter.unusedSimpArgs false
theorem own : ownKnob Try.prog.godebug = none := by kernel_rfl
theorem laidOut : laidOutB Try.prog = true := by kernel_rfl
set_option maxRecDepth 100000 in
theorem o24t : OpenK Try.prog 24 (Knd.pair (Knd.int .i64) (Knd.pair (Knd.int .i64) Knd.str)) (fun x : Int × Int × ByteArray => ((Lit.int .i64 x.1).wf = true ∧ ((Lit.int .i64 x.2.1).wf = true ∧ x.2.2.size ≤ maxLen))) :=
  open_struct Try.underlying24 (by kernel_rfl) (open_cons (P := Try.prog) (off := 0) (k := (Knd.int .i64)) (V := fun x : Int => (Lit.int .i64 x).wf = true) (V' := (fun x : Int × ByteArray => ((Lit.int .i64 x.1).wf = true ∧ x.2.size ≤ maxLen))) 1 (by kernel_rfl) rfl (by kernel_rfl) (open_int Try.underlying3) (open_cons (P := Try.prog) (off := 1) (k := (Knd.int .i64)) (V := fun x : Int => (Lit.int .i64 x).wf = true) (V' := (fun x : ByteArray => x.size ≤ maxLen)) 2 (by kernel_rfl) rfl (by kernel_rfl) (open_int Try.underlying3) (open_last (P := Try.prog) (off := 2) (k := Knd.str) (V := fun x : ByteArray => x.size ≤ maxLen) rfl (by kernel_rfl) (open_str Try.underlying9))))
set_option maxRecDepth 100000 in
theorem lifted (os : Os) (started : os.Started) (H : Type) (enc : TypeId × Value → H) :
    ReturnsInHanded {} Try.checked os 8 .any (Rows.fnExactMulOfSpec.pre6 enc Try.prog Try.f8 Rows.fnExactMulOfRow.domain false) (Rows.fnExactMulOfSpec.post enc Try.prog Try.f8 false true false false) := by
  refine returnsInHanded_of_change_sized (C := Try.checked) own started (by kernel_rfl) Try.func8
    (ChangeSpec.witness6 (enc := enc) (C := Try.checked) false ⟨#[], #[.agg #[.int .i64 0, .int .i64 0, .string ByteArray.empty], .agg #[.int .i64 0, .int .i64 0, .string ByteArray.empty]], []⟩ 8 (by kernel_rfl) (by kernel_rfl) (by kernel_rfl) (by kernel_rfl)) ?_
  intro W base args ds gs before hval0 hW hcnd hsz0 _
  have hval : ∀ (j : Nat) t v, Try.f8.params[j]? = some t → args[j]? = some v → Value.okWide Try.prog W .any base t v := hval0
  have hW' := hW
  obtain ⟨p, q, hA0, hV, rfl, hfz, hnd⟩ := hW
  have hA : DataW.TrodAll enc Try.prog W 0 (fun _ => true) true Try.f8.params.toList args.toList ds p := hA0
  rw [Try.params8] at hA hval
  obtain ⟨v0, vs0, d0, ds0, p0, q0, hargs, rfl, rfl, h0, r0⟩ := trodAll_cons hA
  obtain ⟨v1, vs1, d1, ds1, p1, q1, rfl, rfl, rfl, h1, r1⟩ := trodAll_cons r0
  obtain ⟨rfl, rfl, rfl⟩ := trodAll_nil r1
  obtain rfl : args = #[v0, v1] := by cases args; simp_all
  obtain ⟨rfl, rfl⟩ := trodVars_none hV
  have k0' := h0
  have lt0 : ∀ x ∈ p0, x.block < W.heap.size := by obtain ⟨m, hm⟩ := k0'; exact DataW.trod_lt m _ _ _ hm
  obtain ⟨cs0, rfl, _⟩ := okWide_struct Try.underlying24 (hval 0 24 v0 rfl rfl)
  obtain ⟨⟨a0_0, a0_1, a0_2⟩, K0, w0⟩ := OpenK.at_ o24t h0
  obtain ⟨_, _, x0_0, rfl, ⟨_, _, x0_1, rfl, rfl⟩⟩ := K0
  have xx0 : cs0.toList = _ := x0_0
  simp only [x0_1, List.cons_append, List.nil_append] at xx0
  obtain rfl : cs0 = #[.int .i64 a0_0, .int .i64 a0_1, .string a0_2] := by cases cs0; simp_all
  have k1' := h1
  have lt1 : ∀ x ∈ p1, x.block < W.heap.size := by obtain ⟨m, hm⟩ := k1'; exact DataW.trod_lt m _ _ _ hm
  obtain ⟨cs1, rfl, _⟩ := okWide_struct Try.underlying24 (hval 1 24 v1 rfl rfl)
  obtain ⟨⟨a1_0, a1_1, a1_2⟩, K1, w1⟩ := OpenK.at_ o24t h1
  obtain ⟨_, _, x1_0, rfl, ⟨_, _, x1_1, rfl, rfl⟩⟩ := K1
  have xx1 : cs1.toList = _ := x1_0
  simp only [x1_1, List.cons_append, List.nil_append] at xx1
  obtain rfl : cs1 = #[.int .i64 a1_0, .int .i64 a1_1, .string a1_2] := by cases cs1; simp_all
  refine (Go.Proofs.Ytkllanigogkbiaa.Val.mulLaw a0_0 a0_1 a0_2 a1_0 a1_1 a1_2 W (w0.1) (w0.2.1) (w0.2.2) (w1.1) (w1.2.1) (w1.2.2)).mono fun e W' ⟨he, bel⟩ => ?_
  subst he
  exact ⟨_, rfl, _, _, _, [], _, [], hW', trodAll_mk1 (shut_bool Try.underlying4 _), (trodAll_cons_mk (Below.trod laidOut (by kernel_rfl) (of_decide_eq_true (by kernel_rfl)) k0' bel lt0) (trodAll_cons_mk (Below.trod laidOut (by kernel_rfl) (of_decide_eq_true (by kernel_rfl)) k1' bel lt1) trodAll_mk0)), rfl, bel.frame _, fun h => by cases h⟩
theorem over : Rows.fnExactMulOfRow.holds Try.pinned (OpenSpec.ofChange Rows.fnExactMulOfSpec) :=
  OpenClaim.holds_of_wide 8 Try.f8 rfl rfl rfl rfl rfl rfl rfl ⟨rfl, rfl, rfl, rfl, rfl⟩ rfl rfl rfl rfl rfl (by kernel_rfl) Try.func8 (by kernel_rfl)
    (of_decide_eq_true (by kernel_rfl)) (by unfold Func.isWrapper; first | (rw [if_pos (by decide +kernel)]; kernel_rfl) | (rw [if_neg (by decide +kernel)]; exact ⟨rfl, rfl⟩))
    (fun os started H enc _ => lifted os started H enc)
theorem proved : Rows.FnExactMulOfSaid := over
#print axioms proved
end Go.Proofs.Ytkllanigogkbiaa.fnExactMulOf
namespace Go.Proofs.Ytkllanigogkbiaa
/-- The row, under a short name, for the claim. -/
theorem fnExactMulOf_holds : Rows.FnExactMulOfSaid := fnExactMulOf.proved
end Go.Proofs.Ytkllanigogkbiaa
