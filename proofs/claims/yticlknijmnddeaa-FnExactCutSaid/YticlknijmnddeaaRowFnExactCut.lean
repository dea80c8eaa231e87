/- FnExactCut: for every input the law returns true and each argument reads behind the call as it read before; no condition. -/
import Derived.Test.YticlknijmnddeaaRows
import Derived.Test.YticlknijmnddeaaLCut
import Derived.Test.YticlknijmnddeaaK1
import Derived.WalkKit
import Derived.ProofKit
import Derived.OpenShut
import Derived.ShutString
import Derived.ChangeOld
import Derived.Below
import Derived.SizedLaws
import Derived.ChangeMaps5
namespace Go.Proofs.Yticlknijmnddeaa.fnExactCut
open Go.ChangeShapes Go.WideShapes Go.ChangeAt Go.RowKit Go.Proofs.Yticlknijmnddeaa.Open Go.Proofs.Yticlknijmnddeaa.Mem Go.Proofs.Yticlknijmnddeaa.Dat
open Go.ChangeMaps (shut_string)
set_option linter.unusedVariables false
set_option linter.unusedSimpArgs false
theorem own : ownKnob Try.prog.godebug = none := by kernel_rfl
theorem laidOut : laidOutB Try.prog = true := by kernel_rfl
set_option maxRecDepth 100000 in
theorem o259 : OpenK Try.prog 259 kIns VIns :=
  open_imp (open_iso (V := (fun x : Int × Int => ((Lit.int .i64 x.1).wf = true ∧ (Lit.int .i64 x.2).wf = true))) (fun x : DIns => (x.op, x.a)) (fun x => ⟨x.1, x.2⟩) (fun _ => rfl) (open_struct Try.underlying259 (by kernel_rfl) (open_cons (P := Try.prog) (off := 0) (k := (Knd.int .i64)) (V := fun x : Int => (Lit.int .i64 x).wf = true) (V' := (fun x : Int => (Lit.int .i64 x).wf = true)) 1 (by kernel_rfl) rfl (by kernel_rfl) (open_int Try.underlying3) (open_last (P := Try.prog) (off := 1) (k := (Knd.int .i64)) (V := fun x : Int => (Lit.int .i64 x).wf = true) rfl (by kernel_rfl) (open_int Try.underlying3))))) (by intro a h; exact h)
set_option maxRecDepth 100000 in
theorem o164 : OpenK Try.prog 164 kFunc VFunc :=
  open_imp (open_iso (V := (fun x : Int × Int × (List DIns) => ((Lit.int .i64 x.1).wf = true ∧ ((Lit.int .i64 x.2.1).wf = true ∧ (x.2.2.length ≤ maxLen ∧ ∀ y ∈ x.2.2, VIns y))))) (fun x : DFunc => (x.params, x.locals, x.code)) (fun x => ⟨x.1, x.2.1, x.2.2⟩) (fun _ => rfl) (open_struct Try.underlying164 (by kernel_rfl) (open_cons (P := Try.prog) (off := 0) (k := (Knd.int .i64)) (V := fun x : Int => (Lit.int .i64 x).wf = true) (V' := (fun x : Int × (List DIns) => ((Lit.int .i64 x.1).wf = true ∧ (x.2.length ≤ maxLen ∧ ∀ y ∈ x.2, VIns y)))) 1 (by kernel_rfl) rfl (by kernel_rfl) (open_int Try.underlying3) (open_cons (P := Try.prog) (off := 1) (k := (Knd.int .i64)) (V := fun x : Int => (Lit.int .i64 x).wf = true) (V' := (fun x : (List DIns) => (x.length ≤ maxLen ∧ ∀ y ∈ x, VIns y))) 2 (by kernel_rfl) rfl (by kernel_rfl) (open_int Try.underlying3) (open_last (P := Try.prog) (off := 2) (k := (Knd.slice 259 kIns)) (V := fun x : List DIns => (x.length ≤ maxLen ∧ ∀ y ∈ x, VIns y)) rfl (by kernel_rfl) (open_row (E := 259) Try.underlying162 (by kernel_rfl) o259)))))) (by intro a h; exact h)
set_option maxRecDepth 100000 in
theorem o37t : OpenK Try.prog 37 (Knd.pair (Knd.slice 9 Knd.str) (Knd.slice 164 kFunc)) (fun x : (List ByteArray) × (List DFunc) => ((x.1.length ≤ maxLen ∧ ∀ y ∈ x.1, y.size ≤ maxLen) ∧ (x.2.length ≤ maxLen ∧ ∀ y ∈ x.2, VFunc y))) :=
  open_struct Try.underlying37 (by kernel_rfl) (open_cons (P := Try.prog) (off := 0) (k := (Knd.slice 9 Knd.str)) (V := fun x : List ByteArray => (x.length ≤ maxLen ∧ ∀ y ∈ x, y.size ≤ maxLen)) (V' := (fun x : (List DFunc) => (x.length ≤ maxLen ∧ ∀ y ∈ x, VFunc y))) 1 (by kernel_rfl) rfl (by kernel_rfl) (open_row (E := 9) Try.underlying23 (by kernel_rfl) (open_str Try.underlying9)) (open_last (P := Try.prog) (off := 1) (k := (Knd.slice 164 kFunc)) (V := fun x : List DFunc => (x.length ≤ maxLen ∧ ∀ y ∈ x, VFunc y)) rfl (by kernel_rfl) (open_row (E := 164) Try.underlying35 (by kernel_rfl) o164)))
set_option maxRecDepth 100000 in
theorem lifted (os : Os) (started : os.Started) (H : Type) (enc : TypeId × Value → H) :
    ReturnsInHanded {} Try.checked os 4 .any (Rows.fnExactCutSpec.pre6 enc Try.prog Try.f4 Rows.fnExactCutRow.domain false) (Rows.fnExactCutSpec.post enc Try.prog Try.f4 false true false false) := by
  refine returnsInHanded_of_change_sized (C := Try.checked) own started (by kernel_rfl) Try.func4
    (ChangeSpec.witness6 (enc := enc) (C := Try.checked) false ⟨#[], #[.agg #[.slice none 0 0, .slice none 0 0]], []⟩ 8 (by kernel_rfl) (by kernel_rfl) (by kernel_rfl) (by kernel_rfl)) ?_
  intro W base args ds gs before hval0 hW hcnd hsz0 _
  have hval : ∀ (j : Nat) t v, Try.f4.params[j]? = some t → args[j]? = some v → Value.okWide Try.prog W .any base t v := hval0
  have hW' := hW
  obtain ⟨p, q, hA0, hV, rfl, hfz, hnd⟩ := hW
  have hA : DataW.TrodAll enc Try.prog W 0 (fun _ => true) true Try.f4.params.toList args.toList ds p := hA0
  rw [Try.params4] at hA hval
  obtain ⟨v0, vs0, d0, ds0, p0, q0, hargs, rfl, rfl, h0, r0⟩ := trodAll_cons hA
  obtain ⟨rfl, rfl, rfl⟩ := trodAll_nil r0
  obtain rfl : args = #[v0] := by cases args; simp_all
  obtain ⟨rfl, rfl⟩ := trodVars_none hV
  have k0' := h0
  have lt0 : ∀ x ∈ p0, x.block < W.heap.size := by obtain ⟨m, hm⟩ := k0'; exact DataW.trod_lt m _ _ _ hm
  obtain ⟨cs0, rfl, _⟩ := okWide_struct Try.underlying37 (hval 0 37 v0 rfl rfl)
  obtain ⟨⟨l0_0, l0_1⟩, K0, w0⟩ := OpenK.at_ o37t h0
  obtain ⟨_, _, x0_0, ⟨A0_0, c0_0, rfl, hc0_0, hr0_0⟩, ⟨A0_1, c0_1, rfl, hc0_1, hr0_1⟩⟩ := K0
  have xx0 : cs0.toList = _ := x0_0
  simp only [List.cons_append, List.nil_append] at xx0
  obtain rfl : cs0 = #[.slice A0_0 l0_0.length c0_0, .slice A0_1 l0_1.length c0_1] := by cases cs0; simp_all
  refine (Go.Proofs.Yticlknijmnddeaa.Dat.lawCut l0_0 l0_1 W hr0_0 hc0_0 hr0_1 hc0_1 (w0.1) (w0.2)).mono fun e W' ⟨he, bel⟩ => ?_
  subst he
  exact ⟨_, rfl, _, _, _, [], _, [], hW', trodAll_mk1 (shut_bool Try.underlying4 _), (trodAll_cons_mk (Below.trod laidOut (by kernel_rfl) (of_decide_eq_true (by kernel_rfl)) k0' bel lt0) trodAll_mk0), rfl, bel.frame _, fun h => by cases h⟩
set_option maxHeartbeats 4000000 in
theorem over : Rows.fnExactCutRow.holds Try.pinned (OpenSpec.ofChange Rows.fnExactCutSpec) :=
  OpenClaim.holds_of_wide 4 Try.f4 rfl rfl rfl rfl rfl rfl rfl ⟨rfl, rfl, rfl, rfl, rfl⟩ rfl rfl rfl rfl rfl (by as_aux_lemma => kernel_rfl) Try.func4 (by as_aux_lemma => kernel_rfl)
    (of_decide_eq_true (by as_aux_lemma => kernel_rfl)) (by unfold Func.isWrapper; first | (rw [if_pos (by decide +kernel)]; kernel_rfl) | (rw [if_neg (by decide +kernel)]; exact ⟨rfl, rfl⟩))
    (fun os started H enc _ => lifted os started H enc)
theorem proved : Rows.FnExactCutSaid := over
#print axioms proved
end Go.Proofs.Yticlknijmnddeaa.fnExactCut
namespace Go.Proofs.Yticlknijmnddeaa
/-- The row, under a short name, for the claim. -/
theorem fnExactCut_holds : Rows.FnExactCutSaid := fnExactCut.proved
end Go.Proofs.Yticlknijmnddeaa
