/- FnExactVmOk: for every input the law returns true and each argument reads behind the call as it read before; no condition. -/
import Derived.Test.YticlknijmnddeaaRows
import Derived.Test.YticlknijmnddeaaLVmOk
import Derived.Test.YticlknijmnddeaaK1
import Derived.WalkKit
import Derived.ProofKit
import Derived.OpenShut
import Derived.ShutString
import Derived.ChangeOld
import Derived.Below
import Derived.SizedLaws
import Derived.ChangeMaps5
namespace Go.Proofs.Yticlknijmnddeaa.fnExactVmOk
open Go.ChangeShapes Go.WideShapes Go.ChangeAt Go.RowKit Go.Proofs.Yticlknijmnddeaa.Open Go.Proofs.Yticlknijmnddeaa.Mem Go.Proofs.Yticlknijmnddeaa.Dat
open Go.ChangeMaps (shut_string)
set_option linter.unusedVariables false
set_option linter.unusedSimpArgs false
theorem own : ownKnob Try.prog.godebug = none := by kernel_rfl
theorem laidOut : laidOutB Try.prog = true := by kernel_rfl
set_option maxRecDepth 100000 in
theorem o259 : OpenK Try.prog 259 kIns VIns :=
  open_imp (open_iso (V := (fun x : Int × Int => ((Lit.int .i64 x.1).wf = true ∧ (Lit.int .i64 x.2).wf = true))) (fun x : DIns => (x.op, x.a)) (fun x => ⟨x.1, x.2⟩) (fun _ => rfl) (open_struct Try.underlying259 (by kernel_rfl) (open_cons (P := Try.prog) (off := 0) (k := (Knd.int .i64)) (V := fun x : Int => (Lit.int .i64 x).wf = true) (V' := (fun x : Int => (Lit.int .i64 x).wf = true)) 1 (by kernel_rfl) rfl (by kernel_rfl) (open_int Try.underlying3) (open_last (P := Try.prog) (off := 1) (k := (Knd.int .i64)) (V := fun x : Int => (Lit.int .i64 x).wf = true) rfl (by kernel_rfl) (open_int Try.underlying3))))) (by intro a h; exact h)
set_option maxRecDepth 100000 in
theorem o164 : OpenK Try.prog 164 kFunc VFunc :=
  open_imp (open_iso (V := (fun x : Int × Int × (List DIns) => ((Lit.int .i64 x.1).wf = true ∧ ((Lit.int .i64 x.2.1).wf = true ∧ (x.2.2.length ≤ maxLen ∧ ∀ y ∈ x.2.2, VIns y))))) (fun x : DFunc => (x.params, x.locals, x.code)) (fun x => ⟨x.1, x.2.1, x.2.2⟩) (fun _ => rfl) (open_struct Try.underlying164 (by kernel_rfl) (open_cons (P := Try.prog) (off := 0) (k := (Knd.int .i64)) (V := fun x : Int => (Lit.int .i64 x).wf = true) (V' := (fun x : Int × (List DIns) => ((Lit.int .i64 x.1).wf = true ∧ (x.2.length ≤ maxLen ∧ ∀ y ∈ x.2, VIns y)))) 1 (by kernel_rfl) rfl (by kernel_rfl) (open_int Try.underlying3) (open_cons (P := Try.prog) (off := 1) (k := (Knd.int .i64)) (V := fun x : Int => (Lit.int .i64 x).wf = true) (V' := (fun x : (List DIns) => (x.length ≤ maxLen ∧ ∀ y ∈ x, VIns y))) 2 (by kernel_rfl) rfl (by kernel_rfl) (open_int Try.underlying3) (open_last (P := Try.prog) (off := 2) (k := (Knd.slice 259 kIns)) (V := fun x : List DIns => (x.length ≤ maxLen ∧ ∀ y ∈ x, VIns y)) rfl (by kernel_rfl) (open_row (E := 259) Try.underlying162 (by kernel_rfl) o259)))))) (by intro a h; exact h)
set_option maxRecDepth 100000 in
theorem o37t : OpenK Try.prog 37 (Knd.pair (Knd.slice 9 Knd.str) (Knd.slice 164 kFunc)) (fun x : (List ByteArray) × (List DFunc) => ((x.1.length ≤ maxLen ∧ ∀ y ∈ x.1, y.size ≤ maxLen) ∧ (x.2.length ≤ maxLen ∧ ∀ y ∈ x.2, VFunc y))) :=
  open_struct Try.underlying37 (by kernel_rfl) (open_cons (P := Try.prog) (off := 0) (k := (Knd.slice 9 Knd.str)) (V := fun x : List ByteArray => (x.length ≤ maxLen ∧ ∀ y ∈ x, y.size ≤ maxLen)) (V' := (fun x : (List DFunc) => (x.length ≤ maxLen ∧ ∀ y ∈ x, VFunc y))) 1 (by kernel_rfl) rfl (by kernel_rfl) (open_row (E := 9) Try.underlying23 (by kernel_rfl) (open_str Try.underlying9)) (open_last (P := Try.prog) (off := 1) (k := (Knd.slice 164 kFunc)) (V := fun x : List DFunc => (x.length ≤ maxLen ∧ ∀ y ∈ x, VFunc y)) rfl (by kernel_rfl) (open_row (E := 164) Try.underlying35 (by kernel_rfl) o164)))
set_option maxRecDepth 100000 in
theorem o45 : OpenK Try.prog 45 kValue VValue :=
  open_imp (open_iso (V := (fun x : Int × Int × ByteArray => ((Lit.int .i64 x.1).wf = true ∧ ((Lit.int .i64 x.2.1).wf = true ∧ x.2.2.size ≤ maxLen)))) (fun x : DValue => (x.k, x.n, x.s)) (fun x => ⟨x.1, x.2.1, x.2.2⟩) (fun _ => rfl) (open_struct Try.underlying45 (by kernel_rfl) (open_cons (P := Try.prog) (off := 0) (k := (Knd.int .i64)) (V := fun x : Int => (Lit.int .i64 x).wf = true) (V' := (fun x : Int × ByteArray => ((Lit.int .i64 x.1).wf = true ∧ x.2.size ≤ maxLen))) 1 (by kernel_rfl) rfl (by kernel_rfl) (open_int Try.underlying3) (open_cons (P := Try.prog) (off := 1) (k := (Knd.int .i64)) (V := fun x : Int => (Lit.int .i64 x).wf = true) (V' := (fun x : ByteArray => x.size ≤ maxLen)) 2 (by kernel_rfl) rfl (by kernel_rfl) (open_int Try.underlying3) (open_last (P := Try.prog) (off := 2) (k := Knd.str) (V := fun x : ByteArray => x.size ≤ maxLen) rfl (by kernel_rfl) (open_str Try.underlying9)))))) (by intro a h; exact h)
set_option maxRecDepth 100000 in
theorem o178 : OpenK Try.prog 178 kFrame VFrame :=
  open_imp (open_iso (V := (fun x : Int × Int × (List DValue) × (List DValue) => ((Lit.int .i64 x.1).wf = true ∧ ((Lit.int .i64 x.2.1).wf = true ∧ ((x.2.2.1.length ≤ maxLen ∧ ∀ y ∈ x.2.2.1, VValue y) ∧ (x.2.2.2.length ≤ maxLen ∧ ∀ y ∈ x.2.2.2, VValue y)))))) (fun x : DFrame => (x.fn, x.pc, x.locals, x.stack)) (fun x => ⟨x.1, x.2.1, x.2.2.1, x.2.2.2⟩) (fun _ => rfl) (open_struct Try.underlying178 (by kernel_rfl) (open_cons (P := Try.prog) (off := 0) (k := (Knd.int .i64)) (V := fun x : Int => (Lit.int .i64 x).wf = true) (V' := (fun x : Int × (List DValue) × (List DValue) => ((Lit.int .i64 x.1).wf = true ∧ ((x.2.1.length ≤ maxLen ∧ ∀ y ∈ x.2.1, VValue y) ∧ (x.2.2.length ≤ maxLen ∧ ∀ y ∈ x.2.2, VValue y))))) 1 (by kernel_rfl) rfl (by kernel_rfl) (open_int Try.underlying3) (open_cons (P := Try.prog) (off := 1) (k := (Knd.int .i64)) (V := fun x : Int => (Lit.int .i64 x).wf = true) (V' := (fun x : (List DValue) × (List DValue) => ((x.1.length ≤ maxLen ∧ ∀ y ∈ x.1, VValue y) ∧ (x.2.length ≤ maxLen ∧ ∀ y ∈ x.2, VValue y)))) 2 (by kernel_rfl) rfl (by kernel_rfl) (open_int Try.underlying3) (open_cons (P := Try.prog) (off := 2) (k := (Knd.slice 45 kValue)) (V := fun x : List DValue => (x.length ≤ maxLen ∧ ∀ y ∈ x, VValue y)) (V' := (fun x : (List DValue) => (x.length ≤ maxLen ∧ ∀ y ∈ x, VValue y))) 3 (by kernel_rfl) rfl (by kernel_rfl) (open_row (E := 45) Try.underlying176 (by kernel_rfl) o45) (open_last (P := Try.prog) (off := 3) (k := (Knd.slice 45 kValue)) (V := fun x : List DValue => (x.length ≤ maxLen ∧ ∀ y ∈ x, VValue y)) rfl (by kernel_rfl) (open_row (E := 45) Try.underlying176 (by kernel_rfl) o45))))))) (by intro a h; exact h)
set_option maxRecDepth 100000 in
theorem o181 : OpenK Try.prog 181 kRec VRec :=
  open_imp (open_iso (V := (fun x : (List DValue) => (x.length ≤ maxLen ∧ ∀ y ∈ x, VValue y))) (fun x : DRec => (x.fields)) (fun x => ⟨x⟩) (fun _ => rfl) (open_struct Try.underlying181 (by kernel_rfl) (open_last (P := Try.prog) (off := 0) (k := (Knd.slice 45 kValue)) (V := fun x : List DValue => (x.length ≤ maxLen ∧ ∀ y ∈ x, VValue y)) rfl (by kernel_rfl) (open_row (E := 45) Try.underlying176 (by kernel_rfl) o45)))) (by intro a h; exact h)
set_option maxRecDepth 100000 in
theorem o47t : OpenK Try.prog 47 (Knd.pair (Knd.slice 178 kFrame) (Knd.pair (Knd.slice 181 kRec) (Knd.pair (Knd.int .i64) (Knd.pair (Knd.slice 9 Knd.str) (Knd.pair (Knd.int .i64) (Knd.pair (Knd.int .i64) (Knd.pair kValue (Knd.int .i64)))))))) (fun x : (List DFrame) × (List DRec) × Int × (List ByteArray) × Int × Int × DValue × Int => ((x.1.length ≤ maxLen ∧ ∀ y ∈ x.1, VFrame y) ∧ ((x.2.1.length ≤ maxLen ∧ ∀ y ∈ x.2.1, VRec y) ∧ ((Lit.int .i64 x.2.2.1).wf = true ∧ ((x.2.2.2.1.length ≤ maxLen ∧ ∀ y ∈ x.2.2.2.1, y.size ≤ maxLen) ∧ ((Lit.int .i64 x.2.2.2.2.1).wf = true ∧ ((Lit.int .i64 x.2.2.2.2.2.1).wf = true ∧ (VValue x.2.2.2.2.2.2.1 ∧ (Lit.int .i64 x.2.2.2.2.2.2.2).wf = true)))))))) :=
  open_struct Try.underlying47 (by kernel_rfl) (open_cons (P := Try.prog) (off := 0) (k := (Knd.slice 178 kFrame)) (V := fun x : List DFrame => (x.length ≤ maxLen ∧ ∀ y ∈ x, VFrame y)) (V' := (fun x : (List DRec) × Int × (List ByteArray) × Int × Int × DValue × Int => ((x.1.length ≤ maxLen ∧ ∀ y ∈ x.1, VRec y) ∧ ((Lit.int .i64 x.2.1).wf = true ∧ ((x.2.2.1.length ≤ maxLen ∧ ∀ y ∈ x.2.2.1, y.size ≤ maxLen) ∧ ((Lit.int .i64 x.2.2.2.1).wf = true ∧ ((Lit.int .i64 x.2.2.2.2.1).wf = true ∧ (VValue x.2.2.2.2.2.1 ∧ (Lit.int .i64 x.2.2.2.2.2.2).wf = true)))))))) 1 (by kernel_rfl) rfl (by kernel_rfl) (open_row (E := 178) Try.underlying42 (by kernel_rfl) o178) (open_cons (P := Try.prog) (off := 1) (k := (Knd.slice 181 kRec)) (V := fun x : List DRec => (x.length ≤ maxLen ∧ ∀ y ∈ x, VRec y)) (V' := (fun x : Int × (List ByteArray) × Int × Int × DValue × Int => ((Lit.int .i64 x.1).wf = true ∧ ((x.2.1.length ≤ maxLen ∧ ∀ y ∈ x.2.1, y.size ≤ maxLen) ∧ ((Lit.int .i64 x.2.2.1).wf = true ∧ ((Lit.int .i64 x.2.2.2.1).wf = true ∧ (VValue x.2.2.2.2.1 ∧ (Lit.int .i64 x.2.2.2.2.2).wf = true))))))) 2 (by kernel_rfl) rfl (by kernel_rfl) (open_row (E := 181) Try.underlying43 (by kernel_rfl) o181) (open_cons (P := Try.prog) (off := 2) (k := (Knd.int .i64)) (V := fun x : Int => (Lit.int .i64 x).wf = true) (V' := (fun x : (List ByteArray) × Int × Int × DValue × Int => ((x.1.length ≤ maxLen ∧ ∀ y ∈ x.1, y.size ≤ maxLen) ∧ ((Lit.int .i64 x.2.1).wf = true ∧ ((Lit.int .i64 x.2.2.1).wf = true ∧ (VValue x.2.2.2.1 ∧ (Lit.int .i64 x.2.2.2.2).wf = true)))))) 3 (by kernel_rfl) rfl (by kernel_rfl) (open_int Try.underlying3) (open_cons (P := Try.prog) (off := 3) (k := (Knd.slice 9 Knd.str)) (V := fun x : List ByteArray => (x.length ≤ maxLen ∧ ∀ y ∈ x, y.size ≤ maxLen)) (V' := (fun x : Int × Int × DValue × Int => ((Lit.int .i64 x.1).wf = true ∧ ((Lit.int .i64 x.2.1).wf = true ∧ (VValue x.2.2.1 ∧ (Lit.int .i64 x.2.2.2).wf = true))))) 4 (by kernel_rfl) rfl (by kernel_rfl) (open_row (E := 9) Try.underlying23 (by kernel_rfl) (open_str Try.underlying9)) (open_cons (P := Try.prog) (off := 4) (k := (Knd.int .i64)) (V := fun x : Int => (Lit.int .i64 x).wf = true) (V' := (fun x : Int × DValue × Int => ((Lit.int .i64 x.1).wf = true ∧ (VValue x.2.1 ∧ (Lit.int .i64 x.2.2).wf = true)))) 5 (by kernel_rfl) rfl (by kernel_rfl) (open_int Try.underlying3) (open_cons (P := Try.prog) (off := 5) (k := (Knd.int .i64)) (V := fun x : Int => (Lit.int .i64 x).wf = true) (V' := (fun x : DValue × Int => (VValue x.1 ∧ (Lit.int .i64 x.2).wf = true))) 6 (by kernel_rfl) rfl (by kernel_rfl) (open_int Try.underlying3) (open_cons (P := Try.prog) (off := 6) (k := kValue) (V := fun x : DValue => VValue x) (V' := (fun x : Int => (Lit.int .i64 x).wf = true)) 9 (by kernel_rfl) rfl (by kernel_rfl) o45 (open_last (P := Try.prog) (off := 9) (k := (Knd.int .i64)) (V := fun x : Int => (Lit.int .i64 x).wf = true) rfl (by kernel_rfl) (open_int Try.underlying3)))))))))
set_option maxRecDepth 100000 in
theorem lifted (os : Os) (started : os.Started) (H : Type) (enc : TypeId × Value → H) :
    ReturnsInHanded {} Try.checked os 5 .any (Rows.fnExactVmOkSpec.pre6 enc Try.prog Try.f5 Rows.fnExactVmOkRow.domain false) (Rows.fnExactVmOkSpec.post enc Try.prog Try.f5 false true false false) := by
  refine returnsInHanded_of_change_sized (C := Try.checked) own started (by kernel_rfl) Try.func5
    (ChangeSpec.witness6 (enc := enc) (C := Try.checked) false ⟨#[], #[.agg #[.slice none 0 0, .slice none 0 0], .agg #[.slice none 0 0, .slice none 0 0, .int .i64 0, .slice none 0 0, .int .i64 0, .int .i64 0, .int .i64 0, .int .i64 0, .string ByteArray.empty, .int .i64 0]], []⟩ 8 (by kernel_rfl) (by kernel_rfl) (by kernel_rfl) (by kernel_rfl)) ?_
  intro W base args ds gs before hval0 hW hcnd hsz0 _
  have hval : ∀ (j : Nat) t v, Try.f5.params[j]? = some t → args[j]? = some v → Value.okWide Try.prog W .any base t v := hval0
  have hW' := hW
  obtain ⟨p, q, hA0, hV, rfl, hfz, hnd⟩ := hW
  have hA : DataW.TrodAll enc Try.prog W 0 (fun _ => true) true Try.f5.params.toList args.toList ds p := hA0
  rw [Try.params5] at hA hval
  obtain ⟨v0, vs0, d0, ds0, p0, q0, hargs, rfl, rfl, h0, r0⟩ := trodAll_cons hA
  obtain ⟨v1, vs1, d1, ds1, p1, q1, rfl, rfl, rfl, h1, r1⟩ := trodAll_cons r0
  obtain ⟨rfl, rfl, rfl⟩ := trodAll_nil r1
  obtain rfl : args = #[v0, v1] := by cases args; simp_all
  obtain ⟨rfl, rfl⟩ := trodVars_none hV
  have k0' := h0
  have lt0 : ∀ x ∈ p0, x.block < W.heap.size := by obtain ⟨m, hm⟩ := k0'; exact DataW.trod_lt m _ _ _ hm
  obtain ⟨cs0, rfl, _⟩ := okWide_struct Try.underlying37 (hval 0 37 v0 rfl rfl)
  obtain ⟨⟨l0_0, l0_1⟩, K0, w0⟩ := OpenK.at_ o37t h0
  obtain ⟨_, _, x0_0, ⟨A0_0, c0_0, rfl, hc0_0, hr0_0⟩, ⟨A0_1, c0_1, rfl, hc0_1, hr0_1⟩⟩ := K0
  have xx0 : cs0.toList = _ := x0_0
  simp only [List.cons_append, List.nil_append] at xx0
  obtain rfl : cs0 = #[.slice A0_0 l0_0.length c0_0, .slice A0_1 l0_1.length c0_1] := by cases cs0; simp_all
  have k1' := h1
  have lt1 : ∀ x ∈ p1, x.block < W.heap.size := by obtain ⟨m, hm⟩ := k1'; exact DataW.trod_lt m _ _ _ hm
  obtain ⟨cs1, rfl, _⟩ := okWide_struct Try.underlying47 (hval 1 47 v1 rfl rfl)
  obtain ⟨⟨l1_0, l1_1, a1_2, l1_3, a1_4, a1_5, s1_6, a1_7⟩, K1, w1⟩ := OpenK.at_ o47t h1
  obtain ⟨_, _, x1_0, ⟨A1_0, c1_0, rfl, hc1_0, hr1_0⟩, ⟨_, _, x1_1, ⟨A1_1, c1_1, rfl, hc1_1, hr1_1⟩, ⟨_, _, x1_2, rfl, ⟨_, _, x1_3, ⟨A1_3, c1_3, rfl, hc1_3, hr1_3⟩, ⟨_, _, x1_4, rfl, ⟨_, _, x1_5, rfl, ⟨_, _, x1_6, z1_6, rfl⟩⟩⟩⟩⟩⟩⟩ := K1
  obtain ⟨a1_6_0, a1_6_1, a1_6_2⟩ := s1_6
  have z1_6' := kValue_K.1 z1_6
  have xx1 : cs1.toList = _ := x1_0
  simp only [x1_1, x1_2, x1_3, x1_4, x1_5, x1_6, z1_6', List.cons_append, List.nil_append] at xx1
  obtain rfl : cs1 = #[.slice A1_0 l1_0.length c1_0, .slice A1_1 l1_1.length c1_1, .int .i64 a1_2, .slice A1_3 l1_3.length c1_3, .int .i64 a1_4, .int .i64 a1_5, .int .i64 a1_6_0, .int .i64 a1_6_1, .string a1_6_2, .int .i64 a1_7] := by cases cs1; simp_all
  refine (Go.Proofs.Yticlknijmnddeaa.Dat.lawVmOk l0_0 l0_1 l1_0 l1_1 a1_2 l1_3 a1_4 a1_5 a1_6_0 a1_6_1 a1_6_2 a1_7 W hr0_0 hc0_0 hr0_1 hc0_1 hr1_0 hc1_0 hr1_1 hc1_1 hr1_3 hc1_3 (w0.1) (w0.2) (w1.1) (w1.2.1) (w1.2.2.1) (w1.2.2.2.1) (w1.2.2.2.2.1) (w1.2.2.2.2.2.1) (w1.2.2.2.2.2.2.1.1) (w1.2.2.2.2.2.2.1.2.1) (w1.2.2.2.2.2.2.1.2.2) (w1.2.2.2.2.2.2.2)).mono fun e W' ⟨he, bel⟩ => ?_
  subst he
  exact ⟨_, rfl, _, _, _, [], _, [], hW', trodAll_mk1 (shut_bool Try.underlying4 _), (trodAll_cons_mk (Below.trod laidOut (by kernel_rfl) (of_decide_eq_true (by kernel_rfl)) k0' bel lt0) (trodAll_cons_mk (Below.trod laidOut (by kernel_rfl) (of_decide_eq_true (by kernel_rfl)) k1' bel lt1) trodAll_mk0)), rfl, bel.frame _, fun h => by cases h⟩
set_option maxHeartbeats 4000000 in
theorem over : Rows.fnExactVmOkRow.holds Try.pinned (OpenSpec.ofChange Rows.fnExactVmOkSpec) :=
  OpenClaim.holds_of_wide 5 Try.f5 rfl rfl rfl rfl rfl rfl rfl ⟨rfl, rfl, rfl, rfl, rfl⟩ rfl rfl rfl rfl rfl (by as_aux_lemma => kernel_rfl) Try.func5 (by as_aux_lemma => kernel_rfl)
    (of_decide_eq_true (by as_aux_lemma => kernel_rfl)) (by unfold Func.isWrapper; first | (rw [if_pos (by decide +kernel)]; kernel_rfl) | (rw [if_neg (by decide +kernel)]; exact ⟨rfl, rfl⟩))
    (fun os started H enc _ => lifted os started H enc)
theorem proved : Rows.FnExactVmOkSaid := over
#print axioms proved
end Go.Proofs.Yticlknijmnddeaa.fnExactVmOk
namespace Go.Proofs.Yticlknijmnddeaa
/-- The row, under a short name, for the claim. -/
theorem fnExactVmOk_holds : Rows.FnExactVmOkSaid := fnExactVmOk.proved
end Go.Proofs.Yticlknijmnddeaa
