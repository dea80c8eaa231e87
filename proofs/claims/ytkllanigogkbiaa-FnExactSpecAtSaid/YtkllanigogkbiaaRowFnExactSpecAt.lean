/- FnExactSpecAt: for every input the law returns true and each argument reads behind the call as it read before; no condition. -/
import Derived.Test.YtkllanigogkbiaaRows
import Derived.Test.YtkllanigogkbiaaPFnExactSpecAtx
import Derived.Test.YtkllanigogkbiaaPureFnExactSpecAt
import Derived.Test.YtkllanigogkbiaaOpen
import Derived.WalkKit
import Derived.ProofKit
import Derived.OpenShut
import Derived.ShutString
import Derived.ChangeOld
import Derived.Below
import Derived.SizedLaws
import Derived.ChangeMaps5
namespace Go.Proofs.Ytkllanigogkbiaa.fnExactSpecAt
open Go.ChangeShapes Go.WideShapes Go.ChangeAt Go.RowKit Go.Proofs.Ytkllanigogkbiaa.Open Go.Proofs.YtkllanigogkbiaaW.PrintWords Go.Proofs.Ytkllanigogkbiaa.PFnExactSpecAt
open Go.Proofs.Ytkllanigogkbiaa.PureSpecAt
open Go.ChangeMaps (shut_string)
set_option linter.unusedVariables false
set_option linter.unusedSimpArgs false
theorem own : ownKnob Try.prog.godebug = none := by kernel_rfl
theorem laidOut : laidOutB Try.prog = true := by kernel_rfl
set_option maxRecDepth 100000 in
theorem o120 : OpenK Try.prog 120 k120 V120 :=
  open_imp (open_iso (V := (fun x : Int × Int × Int × Int => ((Lit.int .i64 x.1).wf = true ∧ ((Lit.int .i64 x.2.1).wf = true ∧ ((Lit.int .i64 x.2.2.1).wf = true ∧ (Lit.int .i64 x.2.2.2).wf = true))))) (fun x : S120 => (x.f0, x.f1, x.f2, x.f3)) (fun x => ⟨x.1, x.2.1, x.2.2.1, x.2.2.2⟩) (fun _ => rfl) (open_struct Try.underlying120 (by kernel_rfl) (open_cons (P := Try.prog) (off := 0) (k := (Kd.int .i64)) (V := fun x : Int => (Lit.int .i64 x).wf = true) (V' := (fun x : Int × Int × Int => ((Lit.int .i64 x.1).wf = true ∧ ((Lit.int .i64 x.2.1).wf = true ∧ (Lit.int .i64 x.2.2).wf = true)))) 1 (by kernel_rfl) rfl (by kernel_rfl) (open_int Try.underlying3) (open_cons (P := Try.prog) (off := 1) (k := (Kd.int .i64)) (V := fun x : Int => (Lit.int .i64 x).wf = true) (V' := (fun x : Int × Int => ((Lit.int .i64 x.1).wf = true ∧ (Lit.int .i64 x.2).wf = true))) 2 (by kernel_rfl) rfl (by kernel_rfl) (open_int Try.underlying3) (open_cons (P := Try.prog) (off := 2) (k := (Kd.int .i64)) (V := fun x : Int => (Lit.int .i64 x).wf = true) (V' := (fun x : Int => (Lit.int .i64 x).wf = true)) 3 (by kernel_rfl) rfl (by kernel_rfl) (open_int Try.underlying3) (open_last (P := Try.prog) (off := 3) (k := (Kd.int .i64)) (V := fun x : Int => (Lit.int .i64 x).wf = true) rfl (by kernel_rfl) (open_int Try.underlying3))))))) (by intro a h; simp only [and_true, true_and] at h; first | exact h | (unfold V120; simpa [and_assoc] using h) | trivial)
set_option maxRecDepth 100000 in
theorem o47t : OpenK Try.prog 47 (Kd.pair (Kd.slice 120 k120) (Kd.pair (Kd.int .i64) Kd.bool)) (fun x : (List S120) × Int × Bool => ((x.1.length ≤ maxLen ∧ ∀ y ∈ x.1, V120 y) ∧ ((Lit.int .i64 x.2.1).wf = true ∧ True))) :=
  open_struct Try.underlying47 (by kernel_rfl) (open_cons (P := Try.prog) (off := 0) (k := (Kd.slice 120 k120)) (V := fun x : List S120 => (x.length ≤ maxLen ∧ ∀ y ∈ x, V120 y)) (V' := (fun x : Int × Bool => ((Lit.int .i64 x.1).wf = true ∧ True))) 1 (by kernel_rfl) rfl (by kernel_rfl) (open_row (E := 120) Try.underlying45 (by kernel_rfl) o120) (open_cons (P := Try.prog) (off := 1) (k := (Kd.int .i64)) (V := fun x : Int => (Lit.int .i64 x).wf = true) (V' := (fun x : Bool => True)) 2 (by kernel_rfl) rfl (by kernel_rfl) (open_int Try.underlying3) (open_last (P := Try.prog) (off := 2) (k := Kd.bool) (V := fun x : Bool => True) rfl (by kernel_rfl) (open_bool Try.underlying4))))
set_option maxRecDepth 100000 in
theorem lifted (os : Os) (started : os.Started) (H : Type) (enc : TypeId × Value → H) :
    ReturnsInHanded {} Try.checked os 11 .any (Rows.fnExactSpecAtSpec.pre6 enc Try.prog Try.f11 Rows.fnExactSpecAtRow.domain false) (Rows.fnExactSpecAtSpec.post enc Try.prog Try.f11 false true false false) := by
  refine returnsInHanded_of_change_sized (C := Try.checked) own started (by kernel_rfl) Try.func11
    (ChangeSpec.witness6 (enc := enc) (C := Try.checked) false ⟨#[], #[.agg #[.slice none 0 0, .int .i64 0, .bool false], .int .i64 0, .int .i64 0], []⟩ 8 (by kernel_rfl) (by kernel_rfl) (by kernel_rfl) (by kernel_rfl)) ?_
  intro W base args ds gs before hval0 hW hcnd hsz0 _
  have hval : ∀ (j : Nat) t v, Try.f11.params[j]? = some t → args[j]? = some v → Value.okWide Try.prog W .any base t v := hval0
  have hW' := hW
  obtain ⟨p, q, hA0, hV, rfl, hfz, hnd⟩ := hW
  have hA : DataW.TrodAll enc Try.prog W 0 (fun _ => true) true Try.f11.params.toList args.toList ds p := hA0
  rw [Try.params11] at hA hval
  obtain ⟨v0, vs0, d0, ds0, p0, q0, hargs, rfl, rfl, h0, r0⟩ := trodAll_cons hA
  obtain ⟨v1, vs1, d1, ds1, p1, q1, rfl, rfl, rfl, h1, r1⟩ := trodAll_cons r0
  obtain ⟨v2, vs2, d2, ds2, p2, q2, rfl, rfl, rfl, h2, r2⟩ := trodAll_cons r1
  obtain ⟨rfl, rfl, rfl⟩ := trodAll_nil r2
  obtain rfl : args = #[v0, v1, v2] := by cases args; simp_all
  obtain ⟨rfl, rfl⟩ := trodVars_none hV
  have k0' := h0
  have lt0 : ∀ x ∈ p0, x.block < W.heap.size := by obtain ⟨m, hm⟩ := k0'; exact DataW.trod_lt m _ _ _ hm
  obtain ⟨cs0, rfl, _⟩ := okWide_struct Try.underlying47 (hval 0 47 v0 rfl rfl)
  obtain ⟨⟨l0_0, a0_1, a0_2⟩, K0, w0⟩ := OpenK.at_ o47t h0
  obtain ⟨_, _, x0_0, ⟨A0_0, c0_0, rfl, hc0_0, hr0_0⟩, ⟨_, _, x0_1, rfl, rfl⟩⟩ := K0
  have xx0 : cs0.toList = _ := x0_0
  simp only [x0_1, List.cons_append, List.nil_append] at xx0
  obtain rfl : cs0 = #[.slice A0_0 l0_0.length c0_0, .int .i64 a0_1, .bool a0_2] := by cases cs0; simp_all
  obtain ⟨a1, rfl, rfl, rfl, w1⟩ := Go.ChangeShapes.open_int Try.underlying3 (hval 1 3 v1 rfl rfl) h1
  obtain ⟨a2, rfl, rfl, rfl, w2⟩ := Go.ChangeShapes.open_int Try.underlying3 (hval 2 3 v2 rfl rfl) h2
  obtain ⟨k, h⟩ := Go.Proofs.Ytkllanigogkbiaa.PureSpecAt.pure l0_0 a0_1 a0_2 a1 a2 (w0.1) (w0.2.1) w1 w2
  refine (laws_FnExactSpecAt.calls (hr0_0 := hr0_0) (hc0_0 := hc0_0) (w := W) (h := h)).mono fun e W' ⟨he, bel⟩ => ?_
  subst he
  exact ⟨_, rfl, _, _, _, [], _, [], hW', trodAll_mk1 (shut_bool Try.underlying4 _), (trodAll_cons_mk (Below.trod laidOut (by kernel_rfl) (of_decide_eq_true (by kernel_rfl)) k0' bel lt0) (trodAll_cons_mk (shut_int Try.underlying3 w1) (trodAll_cons_mk (shut_int Try.underlying3 w2) trodAll_mk0))), rfl, bel.frame _, fun h => by cases h⟩
theorem over : Rows.fnExactSpecAtRow.holds Try.pinned (OpenSpec.ofChange Rows.fnExactSpecAtSpec) :=
  OpenClaim.holds_of_wide 11 Try.f11 rfl rfl rfl rfl rfl rfl rfl ⟨rfl, rfl, rfl, rfl, rfl⟩ rfl rfl rfl rfl rfl (by kernel_rfl) Try.func11 (by kernel_rfl)
    (of_decide_eq_true (by kernel_rfl)) (by unfold Func.isWrapper; first | (rw [if_pos (by decide +kernel)]; kernel_rfl) | (rw [if_neg (by decide +kernel)]; exact ⟨rfl, rfl⟩))
    (fun os started H enc _ => lifted os started H enc)
theorem proved : Rows.FnExactSpecAtSaid := over
#print axioms proved
end Go.Proofs.Ytkllanigogkbiaa.fnExactSpecAt
namespace Go.Proofs.Ytkllanigogkbiaa
/-- The row, under a short name, for the claim. -/
theorem fnExactSpecAt_holds : Rows.FnExactSpecAtSaid := fnExactSpecAt.proved
end Go.Proofs.Ytkllanigogkbiaa
