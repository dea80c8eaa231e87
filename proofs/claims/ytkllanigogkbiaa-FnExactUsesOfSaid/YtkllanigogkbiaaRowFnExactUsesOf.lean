/- FnExactUsesOf: for every input the law returns true and each argument reads behind the call as it read before; no condition. -/
import Derived.Test.YtkllanigogkbiaaRows
import Derived.Test.YtkllanigogkbiaaLUsesOf
import Derived.Test.YtkllanigogkbiaaOpen
import Derived.WalkKit
import Derived.ProofKit
import Derived.OpenShut
import Derived.ShutString
import Derived.ChangeOld
import Derived.Below
import Derived.SizedLaws
import Derived.ChangeMaps5
namespace Go.Proofs.Ytkllanigogkbiaa.fnExactUsesOf
open Go.ChangeShapes Go.WideShapes Go.ChangeAt Go.RowKit Go.Proofs.Ytkllanigogkbiaa.Open Go.Proofs.Ytkllanigogkbiaa.Mem Go.Proofs.Ytkllanigogkbiaa.Dat
open Go.ChangeMaps (shut_string)
set_option linter.unusedVariables false
set_option linter.unusedSimpArgs false
theorem own : ownKnob Try.prog.godebug = none := by kernel_rfl
theorem laidOut : laidOutB Try.prog = true := by kernel_rfl
set_option maxRecDepth 100000 in
theorem o77 : OpenK Try.prog 77 kIns VIns :=
  open_imp (open_iso (V := (fun x : Int × Int => ((Lit.int .i64 x.1).wf = true ∧ (Lit.int .i64 x.2).wf = true))) (fun x : DIns => (x.op, x.a)) (fun x => ⟨x.1, x.2⟩) (fun _ => rfl) (open_struct Try.underlying77 (by kernel_rfl) (open_cons (P := Try.prog) (off := 0) (k := (Knd.int .i64)) (V := fun x : Int => (Lit.int .i64 x).wf = true) (V' := (fun x : Int => (Lit.int .i64 x).wf = true)) 1 (by kernel_rfl) rfl (by kernel_rfl) (open_int Try.underlying3) (open_last (P := Try.prog) (off := 1) (k := (Knd.int .i64)) (V := fun x : Int => (Lit.int .i64 x).wf = true) rfl (by kernel_rfl) (open_int Try.underlying3))))) (by intro a h; exact h)
set_option maxRecDepth 100000 in
theorem o128 : OpenK Try.prog 128 kFunc VFunc :=
  open_imp (open_iso (V := (fun x : Int × Int × (List DIns) => ((Lit.int .i64 x.1).wf = true ∧ ((Lit.int .i64 x.2.1).wf = true ∧ (x.2.2.length ≤ maxLen ∧ ∀ y ∈ x.2.2, VIns y))))) (fun x : DFunc => (x.params, x.locals, x.code)) (fun x => ⟨x.1, x.2.1, x.2.2⟩) (fun _ => rfl) (open_struct Try.underlying128 (by kernel_rfl) (open_cons (P := Try.prog) (off := 0) (k := (Knd.int .i64)) (V := fun x : Int => (Lit.int .i64 x).wf = true) (V' := (fun x : Int × (List DIns) => ((Lit.int .i64 x.1).wf = true ∧ (x.2.length ≤ maxLen ∧ ∀ y ∈ x.2, VIns y)))) 1 (by kernel_rfl) rfl (by kernel_rfl) (open_int Try.underlying3) (open_cons (P := Try.prog) (off := 1) (k := (Knd.int .i64)) (V := fun x : Int => (Lit.int .i64 x).wf = true) (V' := (fun x : (List DIns) => (x.length ≤ maxLen ∧ ∀ y ∈ x, VIns y))) 2 (by kernel_rfl) rfl (by kernel_rfl) (open_int Try.underlying3) (open_last (P := Try.prog) (off := 2) (k := (Knd.slice 77 kIns)) (V := fun x : List DIns => (x.length ≤ maxLen ∧ ∀ y ∈ x, VIns y)) rfl (by kernel_rfl) (open_row (E := 77) Try.underlying126 (by kernel_rfl) o77)))))) (by intro a h; exact h)
set_option maxRecDepth 100000 in
theorem o75t : OpenK Try.prog 75 (Knd.pair (Knd.slice 9 Knd.str) (Knd.slice 128 kFunc)) (fun x : (List ByteArray) × (List DFunc) => ((x.1.length ≤ maxLen ∧ ∀ y ∈ x.1, y.size ≤ maxLen) ∧ (x.2.length ≤ maxLen ∧ ∀ y ∈ x.2, VFunc y))) :=
  open_struct Try.underlying75 (by kernel_rfl) (open_cons (P := Try.prog) (off := 0) (k := (Knd.slice 9 Knd.str)) (V := fun x : List ByteArray => (x.length ≤ maxLen ∧ ∀ y ∈ x, y.size ≤ maxLen)) (V' := (fun x : (List DFunc) => (x.length ≤ maxLen ∧ ∀ y ∈ x, VFunc y))) 1 (by kernel_rfl) rfl (by kernel_rfl) (open_row (E := 9) Try.underlying72 (by kernel_rfl) (open_str Try.underlying9)) (open_last (P := Try.prog) (off := 1) (k := (Knd.slice 128 kFunc)) (V := fun x : List DFunc => (x.length ≤ maxLen ∧ ∀ y ∈ x, VFunc y)) rfl (by kernel_rfl) (open_row (E := 128) Try.underlying73 (by kernel_rfl) o128)))
set_option maxRecDepth 100000 in
theorem o77t : OpenK Try.prog 77 (Knd.pair (Knd.int .i64) (Knd.int .i64)) (fun x : Int × Int => ((Lit.int .i64 x.1).wf = true ∧ (Lit.int .i64 x.2).wf = true)) :=
  open_struct Try.underlying77 (by kernel_rfl) (open_cons (P := Try.prog) (off := 0) (k := (Knd.int .i64)) (V := fun x : Int => (Lit.int .i64 x).wf = true) (V' := (fun x : Int => (Lit.int .i64 x).wf = true)) 1 (by kernel_rfl) rfl (by kernel_rfl) (open_int Try.underlying3) (open_last (P := Try.prog) (off := 1) (k := (Knd.int .i64)) (V := fun x : Int => (Lit.int .i64 x).wf = true) rfl (by kernel_rfl) (open_int Try.underlying3)))
set_option maxRecDepth 100000 in
theorem lifted (os : Os) (started : os.Started) (H : Type) (enc : TypeId × Value → H) :
    ReturnsInHanded {} Try.checked os 14 .any (Rows.fnExactUsesOfSpec.pre6 enc Try.prog Try.f14 Rows.fnExactUsesOfRow.domain false) (Rows.fnExactUsesOfSpec.post enc Try.prog Try.f14 false true false false) := by
  refine returnsInHanded_of_change_sized (C := Try.checked) own started (by kernel_rfl) Try.func14
    (ChangeSpec.witness6 (enc := enc) (C := Try.checked) false ⟨#[], #[.agg #[.slice none 0 0, .slice none 0 0], .agg #[.int .i64 0, .int .i64 0]], []⟩ 8 (by kernel_rfl) (by kernel_rfl) (by kernel_rfl) (by kernel_rfl)) ?_
  intro W base args ds gs before hval0 hW hcnd hsz0 _
  have hval : ∀ (j : Nat) t v, Try.f14.params[j]? = some t → args[j]? = some v → Value.okWide Try.prog W .any base t v := hval0
  have hW' := hW
  obtain ⟨p, q, hA0, hV, rfl, hfz, hnd⟩ := hW
  have hA : DataW.TrodAll enc Try.prog W 0 (fun _ => true) true Try.f14.params.toList args.toList ds p := hA0
  rw [Try.params14] at hA hval
  obtain ⟨v0, vs0, d0, ds0, p0, q0, hargs, rfl, rfl, h0, r0⟩ := trodAll_cons hA
  obtain ⟨v1, vs1, d1, ds1, p1, q1, rfl, rfl, rfl, h1, r1⟩ := trodAll_cons r0
  obtain ⟨rfl, rfl, rfl⟩ := trodAll_nil r1
  obtain rfl : args = #[v0, v1] := by cases args; simp_all
  obtain ⟨rfl, rfl⟩ := trodVars_none hV
  have k0' := h0
  have lt0 : ∀ x ∈ p0, x.block < W.heap.size := by obtain ⟨m, hm⟩ := k0'; exact DataW.trod_lt m _ _ _ hm
  obtain ⟨cs0, rfl, _⟩ := okWide_struct Try.underlying75 (hval 0 75 v0 rfl rfl)
  obtain ⟨⟨l0_0, l0_1⟩, K0, w0⟩ := OpenK.at_ o75t h0
  obtain ⟨_, _, x0_0, ⟨A0_0, c0_0, rfl, hc0_0, hr0_0⟩, ⟨A0_1, c0_1, rfl, hc0_1, hr0_1⟩⟩ := K0
  have xx0 : cs0.toList = _ := x0_0
  simp only [List.cons_append, List.nil_append] at xx0
  obtain rfl : cs0 = #[.slice A0_0 l0_0.length c0_0, .slice A0_1 l0_1.length c0_1] := by cases cs0; simp_all
  have k1' := h1
  have lt1 : ∀ x ∈ p1, x.block < W.heap.size := by obtain ⟨m, hm⟩ := k1'; exact DataW.trod_lt m _ _ _ hm
  obtain ⟨cs1, rfl, _⟩ := okWide_struct Try.underlying77 (hval 1 77 v1 rfl rfl)
  obtain ⟨⟨a1_0, a1_1⟩, K1, w1⟩ := OpenK.at_ o77t h1
  obtain ⟨_, _, x1_0, rfl, rfl⟩ := K1
  have xx1 : cs1.toList = _ := x1_0
  simp only [List.cons_append, List.nil_append] at xx1
  obtain rfl : cs1 = #[.int .i64 a1_0, .int .i64 a1_1] := by cases cs1; simp_all
  refine (Go.Proofs.Ytkllanigogkbiaa.Dat.lawUsesOf l0_0 l0_1 a1_0 a1_1 W hr0_0 hc0_0 hr0_1 hc0_1 (w0.1) (w0.2) (w1.1) (w1.2)).mono fun e W' ⟨he, bel⟩ => ?_
  subst he
  exact ⟨_, rfl, _, _, _, [], _, [], hW', trodAll_mk1 (shut_bool Try.underlying4 _), (trodAll_cons_mk (Below.trod laidOut (by kernel_rfl) (of_decide_eq_true (by kernel_rfl)) k0' bel lt0) (trodAll_cons_mk (Below.trod laidOut (by kernel_rfl) (of_decide_eq_true (by kernel_rfl)) k1' bel lt1) trodAll_mk0)), rfl, bel.frame _, fun h => by cases h⟩
theorem over : Rows.fnExactUsesOfRow.holds Try.pinned (OpenSpec.ofChange Rows.fnExactUsesOfSpec) :=
  OpenClaim.holds_of_wide 14 Try.f14 rfl rfl rfl rfl rfl rfl rfl ⟨rfl, rfl, rfl, rfl, rfl⟩ rfl rfl rfl rfl rfl (by kernel_rfl) Try.func14 (by kernel_rfl)
    (of_decide_eq_true (by kernel_rfl)) (by unfold Func.isWrapper; first | (rw [if_pos (by decide +kernel)]; kernel_rfl) | (rw [if_neg (by decide +kernel)]; exact ⟨rfl, rfl⟩))
    (fun os started H enc _ => lifted os started H enc)
theorem proved : Rows.FnExactUsesOfSaid := over
#print axioms proved
end Go.Proofs.Ytkllanigogkbiaa.fnExactUsesOf
namespace Go.Proofs.Ytkllanigogkbiaa
/-- The row, under a short name, for the claim. -/
theorem fnExactUsesOf_holds : Rows.FnExactUsesOfSaid := fnExactUsesOf.proved
end Go.Proofs.Ytkllanigogkbiaa
