/- FnExactActOk: for every input the law returns true and each argument reads behind the call as it read before; no condition. -/
import Derived.Test.YtkllanigogkbiaaRows
import Derived.Test.YtkllanigogkbiaaPFnExactActOkx
import Derived.Test.YtkllanigogkbiaaPureFnExactActOk
import Derived.Test.YtkllanigogkbiaaOpen
import Derived.WalkKit
import Derived.ProofKit
import Derived.OpenShut
import Derived.ShutString
import Derived.ChangeOld
import Derived.Below
import Derived.SizedLaws
import Derived.ChangeMaps5
namespace Go.Proofs.Ytkllanigogkbiaa.fnExactActOk
open Go.ChangeShapes Go.WideShapes Go.ChangeAt Go.RowKit Go.Proofs.Ytkllanigogkbiaa.Open Go.Proofs.YtkllanigogkbiaaW.PrintWords Go.Proofs.Ytkllanigogkbiaa.PFnExactActOk
open Go.Proofs.Ytkllanigogkbiaa.PureActOk
open Go.ChangeMaps (shut_string)
set_option linter.unusedVariables false
set_option linter.unusedSimpArgs false
theorem own : ownKnob Try.prog.godebug = none := by kernel_rfl
theorem laidOut : laidOutB Try.prog = true := by kernel_rfl
set_option maxRecDepth 100000 in
theorem o91 : OpenK Try.prog 91 k91 V91 :=
  open_imp (open_iso (V := (fun x : Int × Int × Int × Int => ((Lit.int .i64 x.1).wf = true ∧ ((Lit.int .i64 x.2.1).wf = true ∧ ((Lit.int .i64 x.2.2.1).wf = true ∧ (Lit.int .i64 x.2.2.2).wf = true))))) (fun x : S91 => (x.f0, x.f1, x.f2, x.f3)) (fun x => ⟨x.1, x.2.1, x.2.2.1, x.2.2.2⟩) (fun _ => rfl) (open_struct Try.underlying91 (by kernel_rfl) (open_cons (P := Try.prog) (off := 0) (k := (Kd.int .i64)) (V := fun x : Int => (Lit.int .i64 x).wf = true) (V' := (fun x : Int × Int × Int => ((Lit.int .i64 x.1).wf = true ∧ ((Lit.int .i64 x.2.1).wf = true ∧ (Lit.int .i64 x.2.2).wf = true)))) 1 (by kernel_rfl) rfl (by kernel_rfl) (open_int Try.underlying3) (open_cons (P := Try.prog) (off := 1) (k := (Kd.int .i64)) (V := fun x : Int => (Lit.int .i64 x).wf = true) (V' := (fun x : Int × Int => ((Lit.int .i64 x.1).wf = true ∧ (Lit.int .i64 x.2).wf = true))) 2 (by kernel_rfl) rfl (by kernel_rfl) (open_int Try.underlying3) (open_cons (P := Try.prog) (off := 2) (k := (Kd.int .i64)) (V := fun x : Int => (Lit.int .i64 x).wf = true) (V' := (fun x : Int => (Lit.int .i64 x).wf = true)) 3 (by kernel_rfl) rfl (by kernel_rfl) (open_int Try.underlying3) (open_last (P := Try.prog) (off := 3) (k := (Kd.int .i64)) (V := fun x : Int => (Lit.int .i64 x).wf = true) rfl (by kernel_rfl) (open_int Try.underlying3))))))) (by intro a h; simp only [and_true, true_and] at h; first | exact h | (unfold V91; simpa [and_assoc] using h) | trivial)
set_option maxRecDepth 100000 in
theorem o60t : OpenK Try.prog 60 (Kd.pair (Kd.int .i64) (Kd.pair (Kd.int .i64) (Kd.pair (Kd.int .i64) (Kd.pair (Kd.int .i64) (Kd.pair Kd.bool (Kd.slice 91 k91)))))) (fun x : Int × Int × Int × Int × Bool × (List S91) => ((Lit.int .i64 x.1).wf = true ∧ ((Lit.int .i64 x.2.1).wf = true ∧ ((Lit.int .i64 x.2.2.1).wf = true ∧ ((Lit.int .i64 x.2.2.2.1).wf = true ∧ (True ∧ (x.2.2.2.2.2.length ≤ maxLen ∧ ∀ y ∈ x.2.2.2.2.2, V91 y))))))) :=
  open_struct Try.underlying60 (by kernel_rfl) (open_cons (P := Try.prog) (off := 0) (k := (Kd.int .i64)) (V := fun x : Int => (Lit.int .i64 x).wf = true) (V' := (fun x : Int × Int × Int × Bool × (List S91) => ((Lit.int .i64 x.1).wf = true ∧ ((Lit.int .i64 x.2.1).wf = true ∧ ((Lit.int .i64 x.2.2.1).wf = true ∧ (True ∧ (x.2.2.2.2.length ≤ maxLen ∧ ∀ y ∈ x.2.2.2.2, V91 y))))))) 1 (by kernel_rfl) rfl (by kernel_rfl) (open_int Try.underlying3) (open_cons (P := Try.prog) (off := 1) (k := (Kd.int .i64)) (V := fun x : Int => (Lit.int .i64 x).wf = true) (V' := (fun x : Int × Int × Bool × (List S91) => ((Lit.int .i64 x.1).wf = true ∧ ((Lit.int .i64 x.2.1).wf = true ∧ (True ∧ (x.2.2.2.length ≤ maxLen ∧ ∀ y ∈ x.2.2.2, V91 y)))))) 2 (by kernel_rfl) rfl (by kernel_rfl) (open_int Try.underlying3) (open_cons (P := Try.prog) (off := 2) (k := (Kd.int .i64)) (V := fun x : Int => (Lit.int .i64 x).wf = true) (V' := (fun x : Int × Bool × (List S91) => ((Lit.int .i64 x.1).wf = true ∧ (True ∧ (x.2.2.length ≤ maxLen ∧ ∀ y ∈ x.2.2, V91 y))))) 3 (by kernel_rfl) rfl (by kernel_rfl) (open_int Try.underlying3) (open_cons (P := Try.prog) (off := 3) (k := (Kd.int .i64)) (V := fun x : Int => (Lit.int .i64 x).wf = true) (V' := (fun x : Bool × (List S91) => (True ∧ (x.2.length ≤ maxLen ∧ ∀ y ∈ x.2, V91 y)))) 4 (by kernel_rfl) rfl (by kernel_rfl) (open_int Try.underlying3) (open_cons (P := Try.prog) (off := 4) (k := Kd.bool) (V := fun x : Bool => True) (V' := (fun x : (List S91) => (x.length ≤ maxLen ∧ ∀ y ∈ x, V91 y))) 5 (by kernel_rfl) rfl (by kernel_rfl) (open_bool Try.underlying4) (open_last (P := Try.prog) (off := 5) (k := (Kd.slice 91 k91)) (V := fun x : List S91 => (x.length ≤ maxLen ∧ ∀ y ∈ x, V91 y)) rfl (by kernel_rfl) (open_row (E := 91) Try.underlying34 (by kernel_rfl) o91)))))))
set_option maxRecDepth 100000 in
theorem lifted (os : Os) (started : os.Started) (H : Type) (enc : TypeId × Value → H) :
    ReturnsInHanded {} Try.checked os 12 .any (Rows.fnExactActOkSpec.pre6 enc Try.prog Try.f12 Rows.fnExactActOkRow.domain false) (Rows.fnExactActOkSpec.post enc Try.prog Try.f12 false true false false) := by
  refine returnsInHanded_of_change_sized (C := Try.checked) own started (by kernel_rfl) Try.func12
    (ChangeSpec.witness6 (enc := enc) (C := Try.checked) false ⟨#[], #[.agg #[.int .i64 0, .int .i64 0, .int .i64 0, .int .i64 0, .bool false, .slice none 0 0]], []⟩ 8 (by kernel_rfl) (by kernel_rfl) (by kernel_rfl) (by kernel_rfl)) ?_
  intro W base args ds gs before hval0 hW hcnd hsz0 _
  have hval : ∀ (j : Nat) t v, Try.f12.params[j]? = some t → args[j]? = some v → Value.okWide Try.prog W .any base t v := hval0
  have hW' := hW
  obtain ⟨p, q, hA0, hV, rfl, hfz, hnd⟩ := hW
  have hA : DataW.TrodAll enc Try.prog W 0 (fun _ => true) true Try.f12.params.toList args.toList ds p := hA0
  rw [Try.params12] at hA hval
  obtain ⟨v0, vs0, d0, ds0, p0, q0, hargs, rfl, rfl, h0, r0⟩ := trodAll_cons hA
  obtain ⟨rfl, rfl, rfl⟩ := trodAll_nil r0
  obtain rfl : args = #[v0] := by cases args; simp_all
  obtain ⟨rfl, rfl⟩ := trodVars_none hV
  have k0' := h0
  have lt0 : ∀ x ∈ p0, x.block < W.heap.size := by obtain ⟨m, hm⟩ := k0'; exact DataW.trod_lt m _ _ _ hm
  obtain ⟨cs0, rfl, _⟩ := okWide_struct Try.underlying60 (hval 0 60 v0 rfl rfl)
  obtain ⟨⟨a0_0, a0_1, a0_2, a0_3, a0_4, l0_5⟩, K0, w0⟩ := OpenK.at_ o60t h0
  obtain ⟨_, _, x0_0, rfl, ⟨_, _, x0_1, rfl, ⟨_, _, x0_2, rfl, ⟨_, _, x0_3, rfl, ⟨_, _, x0_4, rfl, ⟨A0_5, c0_5, rfl, hc0_5, hr0_5⟩⟩⟩⟩⟩⟩ := K0
  have xx0 : cs0.toList = _ := x0_0
  simp only [x0_1, x0_2, x0_3, x0_4, List.cons_append, List.nil_append] at xx0
  obtain rfl : cs0 = #[.int .i64 a0_0, .int .i64 a0_1, .int .i64 a0_2, .int .i64 a0_3, .bool a0_4, .slice A0_5 l0_5.length c0_5] := by cases cs0; simp_all
  obtain ⟨k, h⟩ := Go.Proofs.Ytkllanigogkbiaa.PureActOk.pure a0_0 a0_1 a0_2 a0_3 a0_4 l0_5 (w0.1) (w0.2.1) (w0.2.2.1) (w0.2.2.2.1) (w0.2.2.2.2.2)
  refine (laws_FnExactActOk.calls (hr0_5 := hr0_5) (hc0_5 := hc0_5) (w := W) (h := h)).mono fun e W' ⟨he, bel⟩ => ?_
  subst he
  exact ⟨_, rfl, _, _, _, [], _, [], hW', trodAll_mk1 (shut_bool Try.underlying4 _), (trodAll_cons_mk (Below.trod laidOut (by kernel_rfl) (of_decide_eq_true (by kernel_rfl)) k0' bel lt0) trodAll_mk0), rfl, bel.frame _, fun h => by cases h⟩
theorem over : Rows.fnExactActOkRow.holds Try.pinned (OpenSpec.ofChange Rows.fnExactActOkSpec) :=
  OpenClaim.holds_of_wide 12 Try.f12 rfl rfl rfl rfl rfl rfl rfl ⟨rfl, rfl, rfl, rfl, rfl⟩ rfl rfl rfl rfl rfl (by kernel_rfl) Try.func12 (by kernel_rfl)
    (of_decide_eq_true (by kernel_rfl)) (by unfold Func.isWrapper; first | (rw [if_pos (by decide +kernel)]; kernel_rfl) | (rw [if_neg (by decide +kernel)]; exact ⟨rfl, rfl⟩))
    (fun os started H enc _ => lifted os started H enc)
theorem proved : Rows.FnExactActOkSaid := over
#print axioms proved
end Go.Proofs.Ytkllanigogkbiaa.fnExactActOk
namespace Go.Proofs.Ytkllanigogkbiaa
/-- The row, under a short name, for the claim. -/
theorem fnExactActOk_holds : Rows.FnExactActOkSaid := fnExactActOk.proved
end Go.Proofs.Ytkllanigogkbiaa
