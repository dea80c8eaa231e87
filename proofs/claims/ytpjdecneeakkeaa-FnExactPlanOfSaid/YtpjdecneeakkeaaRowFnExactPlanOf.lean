/- FnExactPlanOf: for every input the law returns true and each argument reads behind the call as it read before; no condition. -/
import Derived.Test.YtpjdecneeakkeaaRows
import Derived.Test.YtpjdecneeakkeaaLPlanOf
import Derived.Test.YtpjdecneeakkeaaK1
import Derived.WalkKit
import Derived.ProofKit
import Derived.OpenShut
import Derived.ShutString
import Derived.ChangeOld
import Derived.Below
import Derived.SizedLaws
import Derived.ChangeMaps5
namespace Go.Proofs.Ytpjdecneeakkeaa.fnExactPlanOf
open Go.ChangeShapes Go.WideShapes Go.ChangeAt Go.RowKit Go.Proofs.Ytpjdecneeakkeaa.Open Go.Proofs.Ytpjdecneeakkeaa.Mem Go.Proofs.Ytpjdecneeakkeaa.Dat
open Go.ChangeMaps (shut_string)
set_option linter.unusedVariables false
set_option linter.unusedSimpArgs false
theorem own : ownKnob Try.prog.godebug = none := by kernel_rfl
theorem laidOut : laidOutB Try.prog = true := by kernel_rfl
set_option maxRecDepth 100000 in
theorem o303 : OpenK Try.prog 303 kIns VIns :=
  open_imp (open_iso (V := (fun x : Int × Int => ((Lit.int .i64 x.1).wf = true ∧ (Lit.int .i64 x.2).wf = true))) (fun x : DIns => (x.op, x.a)) (fun x => ⟨x.1, x.2⟩) (fun _ => rfl) (open_struct Try.underlying303 (by kernel_rfl) (open_cons (P := Try.prog) (off := 0) (k := (Knd.int .i64)) (V := fun x : Int => (Lit.int .i64 x).wf = true) (V' := (fun x : Int => (Lit.int .i64 x).wf = true)) 1 (by kernel_rfl) rfl (by kernel_rfl) (open_int Try.underlying3) (open_last (P := Try.prog) (off := 1) (k := (Knd.int .i64)) (V := fun x : Int => (Lit.int .i64 x).wf = true) rfl (by kernel_rfl) (open_int Try.underlying3))))) (by intro a h; exact h)
set_option maxRecDepth 100000 in
theorem o214 : OpenK Try.prog 214 kFunc VFunc :=
  open_imp (open_iso (V := (fun x : Int × Int × (List DIns) => ((Lit.int .i64 x.1).wf = true ∧ ((Lit.int .i64 x.2.1).wf = true ∧ (x.2.2.length ≤ maxLen ∧ ∀ y ∈ x.2.2, VIns y))))) (fun x : DFunc => (x.params, x.locals, x.code)) (fun x => ⟨x.1, x.2.1, x.2.2⟩) (fun _ => rfl) (open_struct Try.underlying214 (by kernel_rfl) (open_cons (P := Try.prog) (off := 0) (k := (Knd.int .i64)) (V := fun x : Int => (Lit.int .i64 x).wf = true) (V' := (fun x : Int × (List DIns) => ((Lit.int .i64 x.1).wf = true ∧ (x.2.length ≤ maxLen ∧ ∀ y ∈ x.2, VIns y)))) 1 (by kernel_rfl) rfl (by kernel_rfl) (open_int Try.underlying3) (open_cons (P := Try.prog) (off := 1) (k := (Knd.int .i64)) (V := fun x : Int => (Lit.int .i64 x).wf = true) (V' := (fun x : (List DIns) => (x.length ≤ maxLen ∧ ∀ y ∈ x, VIns y))) 2 (by kernel_rfl) rfl (by kernel_rfl) (open_int Try.underlying3) (open_last (P := Try.prog) (off := 2) (k := (Knd.slice 303 kIns)) (V := fun x : List DIns => (x.length ≤ maxLen ∧ ∀ y ∈ x, VIns y)) rfl (by kernel_rfl) (open_row (E := 303) Try.underlying212 (by kernel_rfl) o303)))))) (by intro a h; exact h)
set_option maxRecDepth 100000 in
theorem o44t : OpenK Try.prog 44 (Knd.pair (Knd.slice 9 Knd.str) (Knd.slice 214 kFunc)) (fun x : (List ByteArray) × (List DFunc) => ((x.1.length ≤ maxLen ∧ ∀ y ∈ x.1, y.size ≤ maxLen) ∧ (x.2.length ≤ maxLen ∧ ∀ y ∈ x.2, VFunc y))) :=
  open_struct Try.underlying44 (by kernel_rfl) (open_cons (P := Try.prog) (off := 0) (k := (Knd.slice 9 Knd.str)) (V := fun x : List ByteArray => (x.length ≤ maxLen ∧ ∀ y ∈ x, y.size ≤ maxLen)) (V' := (fun x : (List DFunc) => (x.length ≤ maxLen ∧ ∀ y ∈ x, VFunc y))) 1 (by kernel_rfl) rfl (by kernel_rfl) (open_row (E := 9) Try.underlying31 (by kernel_rfl) (open_str Try.underlying9)) (open_last (P := Try.prog) (off := 1) (k := (Knd.slice 214 kFunc)) (V := fun x : List DFunc => (x.length ≤ maxLen ∧ ∀ y ∈ x, VFunc y)) rfl (by kernel_rfl) (open_row (E := 214) Try.underlying42 (by kernel_rfl) o214)))
set_option maxRecDepth 100000 in
theorem o165 : OpenK Try.prog 165 kSite VSite :=
  open_imp (open_iso (V := (fun x : Int × Int × Int × Int => ((Lit.int .i64 x.1).wf = true ∧ ((Lit.int .i64 x.2.1).wf = true ∧ ((Lit.int .i64 x.2.2.1).wf = true ∧ (Lit.int .i64 x.2.2.2).wf = true))))) (fun x : DSite => (x.fn, x.pc, x.seen, x.target)) (fun x => ⟨x.1, x.2.1, x.2.2.1, x.2.2.2⟩) (fun _ => rfl) (open_struct Try.underlying165 (by kernel_rfl) (open_cons (P := Try.prog) (off := 0) (k := (Knd.int .i64)) (V := fun x : Int => (Lit.int .i64 x).wf = true) (V' := (fun x : Int × Int × Int => ((Lit.int .i64 x.1).wf = true ∧ ((Lit.int .i64 x.2.1).wf = true ∧ (Lit.int .i64 x.2.2).wf = true)))) 1 (by kernel_rfl) rfl (by kernel_rfl) (open_int Try.underlying3) (open_cons (P := Try.prog) (off := 1) (k := (Knd.int .i64)) (V := fun x : Int => (Lit.int .i64 x).wf = true) (V' := (fun x : Int × Int => ((Lit.int .i64 x.1).wf = true ∧ (Lit.int .i64 x.2).wf = true))) 2 (by kernel_rfl) rfl (by kernel_rfl) (open_int Try.underlying3) (open_cons (P := Try.prog) (off := 2) (k := (Knd.int .i64)) (V := fun x : Int => (Lit.int .i64 x).wf = true) (V' := (fun x : Int => (Lit.int .i64 x).wf = true)) 3 (by kernel_rfl) rfl (by kernel_rfl) (open_int Try.underlying3) (open_last (P := Try.prog) (off := 3) (k := (Knd.int .i64)) (V := fun x : Int => (Lit.int .i64 x).wf = true) rfl (by kernel_rfl) (open_int Try.underlying3))))))) (by intro a h; exact h)
set_option maxRecDepth 100000 in
theorem o169 : OpenK Try.prog 169 kSpec VSpec :=
  open_imp (open_iso (V := (fun x : Int × Int × Int × Int => ((Lit.int .i64 x.1).wf = true ∧ ((Lit.int .i64 x.2.1).wf = true ∧ ((Lit.int .i64 x.2.2.1).wf = true ∧ (Lit.int .i64 x.2.2.2).wf = true))))) (fun x : DSpec => (x.fn, x.pc, x.kind, x.target)) (fun x => ⟨x.1, x.2.1, x.2.2.1, x.2.2.2⟩) (fun _ => rfl) (open_struct Try.underlying169 (by kernel_rfl) (open_cons (P := Try.prog) (off := 0) (k := (Knd.int .i64)) (V := fun x : Int => (Lit.int .i64 x).wf = true) (V' := (fun x : Int × Int × Int => ((Lit.int .i64 x.1).wf = true ∧ ((Lit.int .i64 x.2.1).wf = true ∧ (Lit.int .i64 x.2.2).wf = true)))) 1 (by kernel_rfl) rfl (by kernel_rfl) (open_int Try.underlying3) (open_cons (P := Try.prog) (off := 1) (k := (Knd.int .i64)) (V := fun x : Int => (Lit.int .i64 x).wf = true) (V' := (fun x : Int × Int => ((Lit.int .i64 x.1).wf = true ∧ (Lit.int .i64 x.2).wf = true))) 2 (by kernel_rfl) rfl (by kernel_rfl) (open_int Try.underlying3) (open_cons (P := Try.prog) (off := 2) (k := (Knd.int .i64)) (V := fun x : Int => (Lit.int .i64 x).wf = true) (V' := (fun x : Int => (Lit.int .i64 x).wf = true)) 3 (by kernel_rfl) rfl (by kernel_rfl) (open_int Try.underlying3) (open_last (P := Try.prog) (off := 3) (k := (Knd.int .i64)) (V := fun x : Int => (Lit.int .i64 x).wf = true) rfl (by kernel_rfl) (open_int Try.underlying3))))))) (by intro a h; exact h)
set_option maxRecDepth 100000 in
theorem lifted (os : Os) (started : os.Started) (H : Type) (enc : TypeId × Value → H) :
    ReturnsInHanded {} Try.checked os 8 .any (Rows.fnExactPlanOfSpec.pre6 enc Try.prog Try.f8 Rows.fnExactPlanOfRow.domain false) (Rows.fnExactPlanOfSpec.post enc Try.prog Try.f8 false true false false) := by
  refine returnsInHanded_of_change_sized (C := Try.checked) own started (by kernel_rfl) Try.func8
    (ChangeSpec.witness6 (enc := enc) (C := Try.checked) false ⟨#[], #[.agg #[.slice none 0 0, .slice none 0 0], .slice none 0 0, .slice none 0 0, .int .i64 0, .bool false], []⟩ 8 (by kernel_rfl) (by kernel_rfl) (by kernel_rfl) (by kernel_rfl)) ?_
  intro W base args ds gs before hval0 hW hcnd hsz0 _
  have hval : ∀ (j : Nat) t v, Try.f8.params[j]? = some t → args[j]? = some v → Value.okWide Try.prog W .any base t v := hval0
  have hW' := hW
  obtain ⟨p, q, hA0, hV, rfl, hfz, hnd⟩ := hW
  have hA : DataW.TrodAll enc Try.prog W 0 (fun _ => true) true Try.f8.params.toList args.toList ds p := hA0
  rw [Try.params8] at hA hval
  obtain ⟨v0, vs0, d0, ds0, p0, q0, hargs, rfl, rfl, h0, r0⟩ := trodAll_cons hA
  obtain ⟨v1, vs1, d1, ds1, p1, q1, rfl, rfl, rfl, h1, r1⟩ := trodAll_cons r0
  obtain ⟨v2, vs2, d2, ds2, p2, q2, rfl, rfl, rfl, h2, r2⟩ := trodAll_cons r1
  obtain ⟨v3, vs3, d3, ds3, p3, q3, rfl, rfl, rfl, h3, r3⟩ := trodAll_cons r2
  obtain ⟨v4, vs4, d4, ds4, p4, q4, rfl, rfl, rfl, h4, r4⟩ := trodAll_cons r3
  obtain ⟨rfl, rfl, rfl⟩ := trodAll_nil r4
  obtain rfl : args = #[v0, v1, v2, v3, v4] := by cases args; simp_all
  obtain ⟨rfl, rfl⟩ := trodVars_none hV
  have k0' := h0
  have lt0 : ∀ x ∈ p0, x.block < W.heap.size := by obtain ⟨m, hm⟩ := k0'; exact DataW.trod_lt m _ _ _ hm
  obtain ⟨cs0, rfl, _⟩ := okWide_struct Try.underlying44 (hval 0 44 v0 rfl rfl)
  obtain ⟨⟨l0_0, l0_1⟩, K0, w0⟩ := OpenK.at_ o44t h0
  obtain ⟨_, _, x0_0, ⟨A0_0, c0_0, rfl, hc0_0, hr0_0⟩, ⟨A0_1, c0_1, rfl, hc0_1, hr0_1⟩⟩ := K0
  have xx0 : cs0.toList = _ := x0_0
  simp only [List.cons_append, List.nil_append] at xx0
  obtain rfl : cs0 = #[.slice A0_0 l0_0.length c0_0, .slice A0_1 l0_1.length c0_1] := by cases cs0; simp_all
  have k1' := h1
  have lt1 : ∀ x ∈ p1, x.block < W.heap.size := by obtain ⟨m, hm⟩ := k1'; exact DataW.trod_lt m _ _ _ hm
  obtain ⟨a1, len1, cap1, rfl⟩ := okWide_slice Try.underlying64 (hval 1 64 v1 rfl rfl)
  obtain ⟨l1, ⟨A1, c1, e1, hc1, hr1⟩, w1⟩ := OpenK.at_ (open_row (E := 165) Try.underlying64 (by kernel_rfl) o165) h1
  have e1' : [Value.slice a1 len1 cap1] = [.slice A1 l1.length c1] := e1
  simp only [List.cons.injEq, Value.slice.injEq, and_true] at e1'
  obtain ⟨rfl, rfl, rfl⟩ := e1'
  have k2' := h2
  have lt2 : ∀ x ∈ p2, x.block < W.heap.size := by obtain ⟨m, hm⟩ := k2'; exact DataW.trod_lt m _ _ _ hm
  obtain ⟨a2, len2, cap2, rfl⟩ := okWide_slice Try.underlying65 (hval 2 65 v2 rfl rfl)
  obtain ⟨l2, ⟨A2, c2, e2, hc2, hr2⟩, w2⟩ := OpenK.at_ (open_row (E := 169) Try.underlying65 (by kernel_rfl) o169) h2
  have e2' : [Value.slice a2 len2 cap2] = [.slice A2 l2.length c2] := e2
  simp only [List.cons.injEq, Value.slice.injEq, and_true] at e2'
  obtain ⟨rfl, rfl, rfl⟩ := e2'
  obtain ⟨a3, rfl, rfl, rfl, w3⟩ := Go.ChangeShapes.open_int Try.underlying3 (hval 3 3 v3 rfl rfl) h3
  obtain ⟨a4, rfl, rfl, rfl⟩ := Go.RowKit.open_bool Try.underlying4 (hval 4 4 v4 rfl rfl) h4
  refine (Go.Proofs.Ytpjdecneeakkeaa.Dat.lawPlanOf l0_0 l0_1 l1 l2 a3 a4 W hr0_0 hc0_0 hr0_1 hc0_1 hr1 hc1 hr2 hc2 (w0.1) (w0.2) w1 w2 w3).mono fun e W' ⟨he, bel⟩ => ?_
  subst he
  exact ⟨_, rfl, _, _, _, [], _, [], hW', trodAll_mk1 (shut_bool Try.underlying4 _), (trodAll_cons_mk (Below.trod laidOut (by kernel_rfl) (of_decide_eq_true (by kernel_rfl)) k0' bel lt0) (trodAll_cons_mk (Below.trod laidOut (by kernel_rfl) (of_decide_eq_true (by kernel_rfl)) k1' bel lt1) (trodAll_cons_mk (Below.trod laidOut (by kernel_rfl) (of_decide_eq_true (by kernel_rfl)) k2' bel lt2) (trodAll_cons_mk (shut_int Try.underlying3 w3) (trodAll_cons_mk (shut_bool Try.underlying4 _) trodAll_mk0))))), rfl, bel.frame _, fun h => by cases h⟩
set_option maxHeartbeats 4000000 in
theorem over : Rows.fnExactPlanOfRow.holds Try.pinned (OpenSpec.ofChange Rows.fnExactPlanOfSpec) :=
  OpenClaim.holds_of_wide 8 Try.f8 rfl rfl rfl rfl rfl rfl rfl ⟨rfl, rfl, rfl, rfl, rfl⟩ rfl rfl rfl rfl rfl (by as_aux_lemma => kernel_rfl) Try.func8 (by as_aux_lemma => kernel_rfl)
    (of_decide_eq_true (by as_aux_lemma => kernel_rfl)) (by unfold Func.isWrapper; first | (rw [if_pos (by decide +kernel)]; kernel_rfl) | (rw [if_neg (by decide +kernel)]; exact ⟨rfl, rfl⟩))
    (fun os started H enc _ => lifted os started H enc)
theorem proved : Rows.FnExactPlanOfSaid := over
#print axioms proved
end Go.Proofs.Ytpjdecneeakkeaa.fnExactPlanOf
namespace Go.Proofs.Ytpjdecneeakkeaa
/-- The row, under a short name, for the claim. -/
theorem fnExactPlanOf_holds : Rows.FnExactPlanOfSaid := fnExactPlanOf.proved
end Go.Proofs.Ytpjdecneeakkeaa
