/- FnExactWriteVm: for every input the law returns true and each argument reads behind the call as it read before; no condition. -/
import Derived.Test.YthinhlcfpaaldaaGreatRows
import Derived.Test.YthinhlcfpaaldaaGreatLWriteVm
import Derived.Test.YthinhlcfpaaldaaGreatK1
import Derived.WalkKit
import Derived.ProofKit
import Derived.OpenShut
import Derived.ShutString
import Derived.ChangeOld
import Derived.Below
import Derived.SizedLaws
import Derived.ChangeMaps5
namespace Go.Proofs.YthinhlcfpaaldaaGreat.fnExactWriteVm
open Go.ChangeShapes Go.WideShapes Go.ChangeAt Go.RowKit Go.Proofs.YthinhlcfpaaldaaGreat.Open Go.Proofs.YthinhlcfpaaldaaGreat.Mem Go.Proofs.YthinhlcfpaaldaaGreat.Dat
open Go.ChangeMaps (shut_string)
set_option linter.unusedVariables false
set_option linter.unusedSimpArgs false
theorem own : ownKnob Tryz.prog.godebug = none := by kernel_rfl
theorem laidOut : laidOutB Tryz.prog = true := by kernel_rfl
set_option maxRecDepth 100000 in
theorem o346 : OpenK Tryz.prog 346 kIns VIns :=
  open_imp (open_iso (V := (fun x : Int × Int => ((Lit.int .i64 x.1).wf = true ∧ (Lit.int .i64 x.2).wf = true))) (fun x : DIns => (x.op, x.a)) (fun x => ⟨x.1, x.2⟩) (fun _ => rfl) (open_struct Tryz.underlying346 (by kernel_rfl) (open_cons (P := Tryz.prog) (off := 0) (k := (Knd.int .i64)) (V := fun x : Int => (Lit.int .i64 x).wf = true) (V' := (fun x : Int => (Lit.int .i64 x).wf = true)) 1 (by kernel_rfl) rfl (by kernel_rfl) (open_int Tryz.underlying3) (open_last (P := Tryz.prog) (off := 1) (k := (Knd.int .i64)) (V := fun x : Int => (Lit.int .i64 x).wf = true) rfl (by kernel_rfl) (open_int Tryz.underlying3))))) (by intro a h; exact h)
set_option maxRecDepth 100000 in
theorem o185 : OpenK Tryz.prog 185 kFunc VFunc :=
  open_imp (open_iso (V := (fun x : Int × Int × (List DIns) => ((Lit.int .i64 x.1).wf = true ∧ ((Lit.int .i64 x.2.1).wf = true ∧ (x.2.2.length ≤ maxLen ∧ ∀ y ∈ x.2.2, VIns y))))) (fun x : DFunc => (x.params, x.locals, x.code)) (fun x => ⟨x.1, x.2.1, x.2.2⟩) (fun _ => rfl) (open_struct Tryz.underlying185 (by kernel_rfl) (open_cons (P := Tryz.prog) (off := 0) (k := (Knd.int .i64)) (V := fun x : Int => (Lit.int .i64 x).wf = true) (V' := (fun x : Int × (List DIns) => ((Lit.int .i64 x.1).wf = true ∧ (x.2.length ≤ maxLen ∧ ∀ y ∈ x.2, VIns y)))) 1 (by kernel_rfl) rfl (by kernel_rfl) (open_int Tryz.underlying3) (open_cons (P := Tryz.prog) (off := 1) (k := (Knd.int .i64)) (V := fun x : Int => (Lit.int .i64 x).wf = true) (V' := (fun x : (List DIns) => (x.length ≤ maxLen ∧ ∀ y ∈ x, VIns y))) 2 (by kernel_rfl) rfl (by kernel_rfl) (open_int Tryz.underlying3) (open_last (P := Tryz.prog) (off := 2) (k := (Knd.slice 346 kIns)) (V := fun x : List DIns => (x.length ≤ maxLen ∧ ∀ y ∈ x, VIns y)) rfl (by kernel_rfl) (open_row (E := 346) Tryz.underlying183 (by kernel_rfl) o346)))))) (by intro a h; exact h)
set_option maxRecDepth 100000 in
theorem o25t : OpenK Tryz.prog 25 (Knd.pair (Knd.slice 9 Knd.str) (Knd.slice 185 kFunc)) (fun x : (List ByteArray) × (List DFunc) => ((x.1.length ≤ maxLen ∧ ∀ y ∈ x.1, y.size ≤ maxLen) ∧ (x.2.length ≤ maxLen ∧ ∀ y ∈ x.2, VFunc y))) :=
  open_struct Tryz.underlying25 (by kernel_rfl) (open_cons (P := Tryz.prog) (off := 0) (k := (Knd.slice 9 Knd.str)) (V := fun x : List ByteArray => (x.length ≤ maxLen ∧ ∀ y ∈ x, y.size ≤ maxLen)) (V' := (fun x : (List DFunc) => (x.length ≤ maxLen ∧ ∀ y ∈ x, VFunc y))) 1 (by kernel_rfl) rfl (by kernel_rfl) (open_row (E := 9) Tryz.underlying22 (by kernel_rfl) (open_str Tryz.underlying9)) (open_last (P := Tryz.prog) (off := 1) (k := (Knd.slice 185 kFunc)) (V := fun x : List DFunc => (x.length ≤ maxLen ∧ ∀ y ∈ x, VFunc y)) rfl (by kernel_rfl) (open_row (E := 185) Tryz.underlying23 (by kernel_rfl) o185)))
set_option maxRecDepth 100000 in
theorem o53 : OpenK Tryz.prog 53 kValue VValue :=
  open_imp (open_iso (V := (fun x : Int × Int × ByteArray => ((Lit.int .i64 x.1).wf = true ∧ ((Lit.int .i64 x.2.1).wf = true ∧ x.2.2.size ≤ maxLen)))) (fun x : DValue => (x.k, x.n, x.s)) (fun x => ⟨x.1, x.2.1, x.2.2⟩) (fun _ => rfl) (open_struct Tryz.underlying53 (by kernel_rfl) (open_cons (P := Tryz.prog) (off := 0) (k := (Knd.int .i64)) (V := fun x : Int => (Lit.int .i64 x).wf = true) (V' := (fun x : Int × ByteArray => ((Lit.int .i64 x.1).wf = true ∧ x.2.size ≤ maxLen))) 1 (by kernel_rfl) rfl (by kernel_rfl) (open_int Tryz.underlying3) (open_cons (P := Tryz.prog) (off := 1) (k := (Knd.int .i64)) (V := fun x : Int => (Lit.int .i64 x).wf = true) (V' := (fun x : ByteArray => x.size ≤ maxLen)) 2 (by kernel_rfl) rfl (by kernel_rfl) (open_int Tryz.underlying3) (open_last (P := Tryz.prog) (off := 2) (k := Knd.str) (V := fun x : ByteArray => x.size ≤ maxLen) rfl (by kernel_rfl) (open_str Tryz.underlying9)))))) (by intro a h; exact h)
set_option maxRecDepth 100000 in
theorem o227 : OpenK Tryz.prog 227 kFrame VFrame :=
  open_imp (open_iso (V := (fun x : Int × Int × (List DValue) × (List DValue) => ((Lit.int .i64 x.1).wf = true ∧ ((Lit.int .i64 x.2.1).wf = true ∧ ((x.2.2.1.length ≤ maxLen ∧ ∀ y ∈ x.2.2.1, VValue y) ∧ (x.2.2.2.length ≤ maxLen ∧ ∀ y ∈ x.2.2.2, VValue y)))))) (fun x : DFrame => (x.fn, x.pc, x.locals, x.stack)) (fun x => ⟨x.1, x.2.1, x.2.2.1, x.2.2.2⟩) (fun _ => rfl) (open_struct Tryz.underlying227 (by kernel_rfl) (open_cons (P := Tryz.prog) (off := 0) (k := (Knd.int .i64)) (V := fun x : Int => (Lit.int .i64 x).wf = true) (V' := (fun x : Int × (List DValue) × (List DValue) => ((Lit.int .i64 x.1).wf = true ∧ ((x.2.1.length ≤ maxLen ∧ ∀ y ∈ x.2.1, VValue y) ∧ (x.2.2.length ≤ maxLen ∧ ∀ y ∈ x.2.2, VValue y))))) 1 (by kernel_rfl) rfl (by kernel_rfl) (open_int Tryz.underlying3) (open_cons (P := Tryz.prog) (off := 1) (k := (Knd.int .i64)) (V := fun x : Int => (Lit.int .i64 x).wf = true) (V' := (fun x : (List DValue) × (List DValue) => ((x.1.length ≤ maxLen ∧ ∀ y ∈ x.1, VValue y) ∧ (x.2.length ≤ maxLen ∧ ∀ y ∈ x.2, VValue y)))) 2 (by kernel_rfl) rfl (by kernel_rfl) (open_int Tryz.underlying3) (open_cons (P := Tryz.prog) (off := 2) (k := (Knd.slice 53 kValue)) (V := fun x : List DValue => (x.length ≤ maxLen ∧ ∀ y ∈ x, VValue y)) (V' := (fun x : (List DValue) => (x.length ≤ maxLen ∧ ∀ y ∈ x, VValue y))) 3 (by kernel_rfl) rfl (by kernel_rfl) (open_row (E := 53) Tryz.underlying225 (by kernel_rfl) o53) (open_last (P := Tryz.prog) (off := 3) (k := (Knd.slice 53 kValue)) (V := fun x : List DValue => (x.length ≤ maxLen ∧ ∀ y ∈ x, VValue y)) rfl (by kernel_rfl) (open_row (E := 53) Tryz.underlying225 (by kernel_rfl) o53))))))) (by intro a h; exact h)
set_option maxRecDepth 100000 in
theorem o230 : OpenK Tryz.prog 230 kRec VRec :=
  open_imp (open_iso (V := (fun x : (List DValue) => (x.length ≤ maxLen ∧ ∀ y ∈ x, VValue y))) (fun x : DRec => (x.fields)) (fun x => ⟨x⟩) (fun _ => rfl) (open_struct Tryz.underlying230 (by kernel_rfl) (open_last (P := Tryz.prog) (off := 0) (k := (Knd.slice 53 kValue)) (V := fun x : List DValue => (x.length ≤ maxLen ∧ ∀ y ∈ x, VValue y)) rfl (by kernel_rfl) (open_row (E := 53) Tryz.underlying225 (by kernel_rfl) o53)))) (by intro a h; exact h)
set_option maxRecDepth 100000 in
theorem o55t : OpenK Tryz.prog 55 (Knd.pair (Knd.slice 227 kFrame) (Knd.pair (Knd.slice 230 kRec) (Knd.pair (Knd.int .i64) (Knd.pair (Knd.slice 9 Knd.str) (Knd.pair (Knd.int .i64) (Knd.pair (Knd.int .i64) (Knd.pair kValue (Knd.int .i64)))))))) (fun x : (List DFrame) × (List DRec) × Int × (List ByteArray) × Int × Int × DValue × Int => ((x.1.length ≤ maxLen ∧ ∀ y ∈ x.1, VFrame y) ∧ ((x.2.1.length ≤ maxLen ∧ ∀ y ∈ x.2.1, VRec y) ∧ ((Lit.int .i64 x.2.2.1).wf = true ∧ ((x.2.2.2.1.length ≤ maxLen ∧ ∀ y ∈ x.2.2.2.1, y.size ≤ maxLen) ∧ ((Lit.int .i64 x.2.2.2.2.1).wf = true ∧ ((Lit.int .i64 x.2.2.2.2.2.1).wf = true ∧ (VValue x.2.2.2.2.2.2.1 ∧ (Lit.int .i64 x.2.2.2.2.2.2.2).wf = true)))))))) :=
  open_struct Tryz.underlying55 (by kernel_rfl) (open_cons (P := Tryz.prog) (off := 0) (k := (Knd.slice 227 kFrame)) (V := fun x : List DFrame => (x.length ≤ maxLen ∧ ∀ y ∈ x, VFrame y)) (V' := (fun x : (List DRec) × Int × (List ByteArray) × Int × Int × DValue × Int => ((x.1.length ≤ maxLen ∧ ∀ y ∈ x.1, VRec y) ∧ ((Lit.int .i64 x.2.1).wf = true ∧ ((x.2.2.1.length ≤ maxLen ∧ ∀ y ∈ x.2.2.1, y.size ≤ maxLen) ∧ ((Lit.int .i64 x.2.2.2.1).wf = true ∧ ((Lit.int .i64 x.2.2.2.2.1).wf = true ∧ (VValue x.2.2.2.2.2.1 ∧ (Lit.int .i64 x.2.2.2.2.2.2).wf = true)))))))) 1 (by kernel_rfl) rfl (by kernel_rfl) (open_row (E := 227) Tryz.underlying50 (by kernel_rfl) o227) (open_cons (P := Tryz.prog) (off := 1) (k := (Knd.slice 230 kRec)) (V := fun x : List DRec => (x.length ≤ maxLen ∧ ∀ y ∈ x, VRec y)) (V' := (fun x : Int × (List ByteArray) × Int × Int × DValue × Int => ((Lit.int .i64 x.1).wf = true ∧ ((x.2.1.length ≤ maxLen ∧ ∀ y ∈ x.2.1, y.size ≤ maxLen) ∧ ((Lit.int .i64 x.2.2.1).wf = true ∧ ((Lit.int .i64 x.2.2.2.1).wf = true ∧ (VValue x.2.2.2.2.1 ∧ (Lit.int .i64 x.2.2.2.2.2).wf = true))))))) 2 (by kernel_rfl) rfl (by kernel_rfl) (open_row (E := 230) Tryz.underlying51 (by kernel_rfl) o230) (open_cons (P := Tryz.prog) (off := 2) (k := (Knd.int .i64)) (V := fun x : Int => (Lit.int .i64 x).wf = true) (V' := (fun x : (List ByteArray) × Int × Int × DValue × Int => ((x.1.length ≤ maxLen ∧ ∀ y ∈ x.1, y.size ≤ maxLen) ∧ ((Lit.int .i64 x.2.1).wf = true ∧ ((Lit.int .i64 x.2.2.1).wf = true ∧ (VValue x.2.2.2.1 ∧ (Lit.int .i64 x.2.2.2.2).wf = true)))))) 3 (by kernel_rfl) rfl (by kernel_rfl) (open_int Tryz.underlying3) (open_cons (P := Tryz.prog) (off := 3) (k := (Knd.slice 9 Knd.str)) (V := fun x : List ByteArray => (x.length ≤ maxLen ∧ ∀ y ∈ x, y.size ≤ maxLen)) (V' := (fun x : Int × Int × DValue × Int => ((Lit.int .i64 x.1).wf = true ∧ ((Lit.int .i64 x.2.1).wf = true ∧ (VValue x.2.2.1 ∧ (Lit.int .i64 x.2.2.2).wf = true))))) 4 (by kernel_rfl) rfl (by kernel_rfl) (open_row (E := 9) Tryz.underlying22 (by kernel_rfl) (open_str Tryz.underlying9)) (open_cons (P := Tryz.prog) (off := 4) (k := (Knd.int .i64)) (V := fun x : Int => (Lit.int .i64 x).wf = true) (V' := (fun x : Int × DValue × Int => ((Lit.int .i64 x.1).wf = true ∧ (VValue x.2.1 ∧ (Lit.int .i64 x.2.2).wf = true)))) 5 (by kernel_rfl) rfl (by kernel_rfl) (open_int Tryz.underlying3) (open_cons (P := Tryz.prog) (off := 5) (k := (Knd.int .i64)) (V := fun x : Int => (Lit.int .i64 x).wf = true) (V' := (fun x : DValue × Int => (VValue x.1 ∧ (Lit.int .i64 x.2).wf = true))) 6 (by kernel_rfl) rfl (by kernel_rfl) (open_int Tryz.underlying3) (open_cons (P := Tryz.prog) (off := 6) (k := kValue) (V := fun x : DValue => VValue x) (V' := (fun x : Int => (Lit.int .i64 x).wf = true)) 9 (by kernel_rfl) rfl (by kernel_rfl) o53 (open_last (P := Tryz.prog) (off := 9) (k := (Knd.int .i64)) (V := fun x : Int => (Lit.int .i64 x).wf = true) rfl (by kernel_rfl) (open_int Tryz.underlying3)))))))))
set_option maxRecDepth 100000 in
theorem lifted (os : Os) (started : os.Started) (H : Type) (enc : TypeId × Value → H) :
    ReturnsInHanded {} Tryz.checked os 6 .any (Rows.fnExactWriteVmSpec.pre6 enc Tryz.prog Tryz.f6 Rows.fnExactWriteVmRow.domain false) (Rows.fnExactWriteVmSpec.post enc Tryz.prog Tryz.f6 false true false false) := by
  refine returnsInHanded_of_change_sized (C := Tryz.checked) own started (by kernel_rfl) Tryz.func6
    (ChangeSpec.witness6 (enc := enc) (C := Tryz.checked) false ⟨#[], #[.agg #[.slice none 0 0, .slice none 0 0], .agg #[.slice none 0 0, .slice none 0 0, .int .i64 0, .slice none 0 0, .int .i64 0, .int .i64 0, .int .i64 0, .int .i64 0, .string ByteArray.empty, .int .i64 0]], []⟩ 8 (by kernel_rfl) (by kernel_rfl) (by kernel_rfl) (by kernel_rfl)) ?_
  intro W base args ds gs before hval0 hW hcnd hsz0 _
  have hval : ∀ (j : Nat) t v, Tryz.f6.params[j]? = some t → args[j]? = some v → Value.okWide Tryz.prog W .any base t v := hval0
  have hW' := hW
  obtain ⟨p, q, hA0, hV, rfl, hfz, hnd⟩ := hW
  have hA : DataW.TrodAll enc Tryz.prog W 0 (fun _ => true) true Tryz.f6.params.toList args.toList ds p := hA0
  rw [Tryz.params6] at hA hval
  obtain ⟨v0, vs0, d0, ds0, p0, q0, hargs, rfl, rfl, h0, r0⟩ := trodAll_cons hA
  obtain ⟨v1, vs1, d1, ds1, p1, q1, rfl, rfl, rfl, h1, r1⟩ := trodAll_cons r0
  obtain ⟨rfl, rfl, rfl⟩ := trodAll_nil r1
  obtain rfl : args = #[v0, v1] := by cases args; simp_all
  obtain ⟨rfl, rfl⟩ := trodVars_none hV
  have k0' := h0
  have lt0 : ∀ x ∈ p0, x.block < W.heap.size := by obtain ⟨m, hm⟩ := k0'; exact DataW.trod_lt m _ _ _ hm
  obtain ⟨cs0, rfl, _⟩ := okWide_struct Tryz.underlying25 (hval 0 25 v0 rfl rfl)
  obtain ⟨⟨l0_0, l0_1⟩, K0, w0⟩ := OpenK.at_ o25t h0
  obtain ⟨_, _, x0_0, ⟨A0_0, c0_0, rfl, hc0_0, hr0_0⟩, ⟨A0_1, c0_1, rfl, hc0_1, hr0_1⟩⟩ := K0
  have xx0 : cs0.toList = _ := x0_0
  simp only [List.cons_append, List.nil_append] at xx0
  obtain rfl : cs0 = #[.slice A0_0 l0_0.length c0_0, .slice A0_1 l0_1.length c0_1] := by cases cs0; simp_all
  have k1' := h1
  have lt1 : ∀ x ∈ p1, x.block < W.heap.size := by obtain ⟨m, hm⟩ := k1'; exact DataW.trod_lt m _ _ _ hm
  obtain ⟨cs1, rfl, _⟩ := okWide_struct Tryz.underlying55 (hval 1 55 v1 rfl rfl)
  obtain ⟨⟨l1_0, l1_1, a1_2, l1_3, a1_4, a1_5, s1_6, a1_7⟩, K1, w1⟩ := OpenK.at_ o55t h1
  obtain ⟨_, _, x1_0, ⟨A1_0, c1_0, rfl, hc1_0, hr1_0⟩, ⟨_, _, x1_1, ⟨A1_1, c1_1, rfl, hc1_1, hr1_1⟩, ⟨_, _, x1_2, rfl, ⟨_, _, x1_3, ⟨A1_3, c1_3, rfl, hc1_3, hr1_3⟩, ⟨_, _, x1_4, rfl, ⟨_, _, x1_5, rfl, ⟨_, _, x1_6, z1_6, rfl⟩⟩⟩⟩⟩⟩⟩ := K1
  obtain ⟨a1_6_0, a1_6_1, a1_6_2⟩ := s1_6
  have z1_6' := kValue_K.1 z1_6
  have xx1 : cs1.toList = _ := x1_0
  simp only [x1_1, x1_2, x1_3, x1_4, x1_5, x1_6, z1_6', List.cons_append, List.nil_append] at xx1
  obtain rfl : cs1 = #[.slice A1_0 l1_0.length c1_0, .slice A1_1 l1_1.length c1_1, .int .i64 a1_2, .slice A1_3 l1_3.length c1_3, .int .i64 a1_4, .int .i64 a1_5, .int .i64 a1_6_0, .int .i64 a1_6_1, .string a1_6_2, .int .i64 a1_7] := by cases cs1; simp_all
  refine (Go.Proofs.YthinhlcfpaaldaaGreat.Dat.lawWriteVm l0_0 l0_1 l1_0 l1_1 a1_2 l1_3 a1_4 a1_5 a1_6_0 a1_6_1 a1_6_2 a1_7 W hr0_0 hc0_0 hr0_1 hc0_1 hr1_0 hc1_0 hr1_1 hc1_1 hr1_3 hc1_3 (w0.1) (w0.2) (w1.1) (w1.2.1) (w1.2.2.1) (w1.2.2.2.1) (w1.2.2.2.2.1) (w1.2.2.2.2.2.1) (w1.2.2.2.2.2.2.1.1) (w1.2.2.2.2.2.2.1.2.1) (w1.2.2.2.2.2.2.1.2.2) (w1.2.2.2.2.2.2.2)).mono fun e W' ⟨he, bel⟩ => ?_
  subst he
  exact ⟨_, rfl, _, _, _, [], _, [], hW', trodAll_mk1 (shut_bool Tryz.underlying4 _), (trodAll_cons_mk (Below.trod laidOut (by kernel_rfl) (of_decide_eq_true (by kernel_rfl)) k0' bel lt0) (trodAll_cons_mk (Below.trod laidOut (by kernel_rfl) (of_decide_eq_true (by kernel_rfl)) k1' bel lt1) trodAll_mk0)), rfl, bel.frame _, fun h => by cases h⟩
set_option maxHeartbeats 4000000 in
theorem closed_ : joinedFacts Tryz.pinned.checked.prog 6 Tryz.f6 Rows.fnExactWriteVmSpec Rows.fnExactWriteVmRow = true := by
  unfold joinedFacts
  repeat' (with_reducible refine (Bool.and_eq_true _ _).mpr ⟨?_, ?_⟩)
  all_goals (as_aux_lemma => kernel_rfl)
set_option maxHeartbeats 4000000 in
theorem over : Rows.fnExactWriteVmRow.holds Tryz.pinned (OpenSpec.ofChange Rows.fnExactWriteVmSpec) :=
  OpenClaim.holds_of_wide 6 Tryz.f6 rfl rfl rfl rfl rfl rfl rfl ⟨rfl, rfl, rfl, rfl, rfl⟩ rfl rfl rfl rfl rfl (by as_aux_lemma => kernel_rfl) Tryz.func6 closed_
    (of_decide_eq_true (by as_aux_lemma => kernel_rfl)) (by unfold Func.isWrapper; first | (rw [if_pos (by decide +kernel)]; kernel_rfl) | (rw [if_neg (by decide +kernel)]; exact ⟨rfl, rfl⟩))
    (fun os started H enc _ => lifted os started H enc)
theorem proved : Rows.FnExactWriteVmSaid := over
#print axioms proved
end Go.Proofs.YthinhlcfpaaldaaGreat.fnExactWriteVm
namespace Go.Proofs.YthinhlcfpaaldaaGreat
/-- The row, under a short name, for the claim. -/
theorem fnExactWriteVm_holds : Rows.FnExactWriteVmSaid := fnExactWriteVm.proved
end Go.Proofs.YthinhlcfpaaldaaGreat
