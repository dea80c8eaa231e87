/- FnExactNewTier: for every input the law returns true and each argument reads behind the call as it read before; no condition. -/
import Derived.Test.YticlknijmnddeaaGreatRows
import Derived.Test.YticlknijmnddeaaGreatLNewTier
import Derived.Test.YticlknijmnddeaaGreatK1
import Derived.WalkKit
import Derived.ProofKit
import Derived.OpenShut
import Derived.ShutString
import Derived.ChangeOld
import Derived.Below
import Derived.SizedLaws
import Derived.ChangeMaps5
namespace Go.Proofs.YticlknijmnddeaaGreat.fnExactNewTier
open Go.ChangeShapes Go.WideShapes Go.ChangeAt Go.RowKit Go.Proofs.YticlknijmnddeaaGreat.Open Go.Proofs.YticlknijmnddeaaGreat.Mem Go.Proofs.YticlknijmnddeaaGreat.Dat
open Go.ChangeMaps (shut_string)
set_option linter.unusedVariables false
set_option linter.unusedSimpArgs false
theorem own : ownKnob Tryz.prog.godebug = none := by kernel_rfl
theorem laidOut : laidOutB Tryz.prog = true := by kernel_rfl
set_option maxRecDepth 100000 in
theorem o279 : OpenK Tryz.prog 279 kIns VIns :=
  open_imp (open_iso (V := (fun x : Int × Int => ((Lit.int .i64 x.1).wf = true ∧ (Lit.int .i64 x.2).wf = true))) (fun x : DIns => (x.op, x.a)) (fun x => ⟨x.1, x.2⟩) (fun _ => rfl) (open_struct Tryz.underlying279 (by kernel_rfl) (open_cons (P := Tryz.prog) (off := 0) (k := (Knd.int .i64)) (V := fun x : Int => (Lit.int .i64 x).wf = true) (V' := (fun x : Int => (Lit.int .i64 x).wf = true)) 1 (by kernel_rfl) rfl (by kernel_rfl) (open_int Tryz.underlying3) (open_last (P := Tryz.prog) (off := 1) (k := (Knd.int .i64)) (V := fun x : Int => (Lit.int .i64 x).wf = true) rfl (by kernel_rfl) (open_int Tryz.underlying3))))) (by intro a h; exact h)
set_option maxRecDepth 100000 in
theorem o162 : OpenK Tryz.prog 162 kFunc VFunc :=
  open_imp (open_iso (V := (fun x : Int × Int × (List DIns) => ((Lit.int .i64 x.1).wf = true ∧ ((Lit.int .i64 x.2.1).wf = true ∧ (x.2.2.length ≤ maxLen ∧ ∀ y ∈ x.2.2, VIns y))))) (fun x : DFunc => (x.params, x.locals, x.code)) (fun x => ⟨x.1, x.2.1, x.2.2⟩) (fun _ => rfl) (open_struct Tryz.underlying162 (by kernel_rfl) (open_cons (P := Tryz.prog) (off := 0) (k := (Knd.int .i64)) (V := fun x : Int => (Lit.int .i64 x).wf = true) (V' := (fun x : Int × (List DIns) => ((Lit.int .i64 x.1).wf = true ∧ (x.2.length ≤ maxLen ∧ ∀ y ∈ x.2, VIns y)))) 1 (by kernel_rfl) rfl (by kernel_rfl) (open_int Tryz.underlying3) (open_cons (P := Tryz.prog) (off := 1) (k := (Knd.int .i64)) (V := fun x : Int => (Lit.int .i64 x).wf = true) (V' := (fun x : (List DIns) => (x.length ≤ maxLen ∧ ∀ y ∈ x, VIns y))) 2 (by kernel_rfl) rfl (by kernel_rfl) (open_int Tryz.underlying3) (open_last (P := Tryz.prog) (off := 2) (k := (Knd.slice 279 kIns)) (V := fun x : List DIns => (x.length ≤ maxLen ∧ ∀ y ∈ x, VIns y)) rfl (by kernel_rfl) (open_row (E := 279) Tryz.underlying160 (by kernel_rfl) o279)))))) (by intro a h; exact h)
set_option maxRecDepth 100000 in
theorem o25t : OpenK Tryz.prog 25 (Knd.pair (Knd.slice 9 Knd.str) (Knd.slice 162 kFunc)) (fun x : (List ByteArray) × (List DFunc) => ((x.1.length ≤ maxLen ∧ ∀ y ∈ x.1, y.size ≤ maxLen) ∧ (x.2.length ≤ maxLen ∧ ∀ y ∈ x.2, VFunc y))) :=
  open_struct Tryz.underlying25 (by kernel_rfl) (open_cons (P := Tryz.prog) (off := 0) (k := (Knd.slice 9 Knd.str)) (V := fun x : List ByteArray => (x.length ≤ maxLen ∧ ∀ y ∈ x, y.size ≤ maxLen)) (V' := (fun x : (List DFunc) => (x.length ≤ maxLen ∧ ∀ y ∈ x, VFunc y))) 1 (by kernel_rfl) rfl (by kernel_rfl) (open_row (E := 9) Tryz.underlying22 (by kernel_rfl) (open_str Tryz.underlying9)) (open_last (P := Tryz.prog) (off := 1) (k := (Knd.slice 162 kFunc)) (V := fun x : List DFunc => (x.length ≤ maxLen ∧ ∀ y ∈ x, VFunc y)) rfl (by kernel_rfl) (open_row (E := 162) Tryz.underlying23 (by kernel_rfl) o162)))
set_option maxRecDepth 100000 in
theorem o29 : OpenK Tryz.prog 29 kValue VValue :=
  open_imp (open_iso (V := (fun x : Int × Int × ByteArray => ((Lit.int .i64 x.1).wf = true ∧ ((Lit.int .i64 x.2.1).wf = true ∧ x.2.2.size ≤ maxLen)))) (fun x : DValue => (x.k, x.n, x.s)) (fun x => ⟨x.1, x.2.1, x.2.2⟩) (fun _ => rfl) (open_struct Tryz.underlying29 (by kernel_rfl) (open_cons (P := Tryz.prog) (off := 0) (k := (Knd.int .i64)) (V := fun x : Int => (Lit.int .i64 x).wf = true) (V' := (fun x : Int × ByteArray => ((Lit.int .i64 x.1).wf = true ∧ x.2.size ≤ maxLen))) 1 (by kernel_rfl) rfl (by kernel_rfl) (open_int Tryz.underlying3) (open_cons (P := Tryz.prog) (off := 1) (k := (Knd.int .i64)) (V := fun x : Int => (Lit.int .i64 x).wf = true) (V' := (fun x : ByteArray => x.size ≤ maxLen)) 2 (by kernel_rfl) rfl (by kernel_rfl) (open_int Tryz.underlying3) (open_last (P := Tryz.prog) (off := 2) (k := Knd.str) (V := fun x : ByteArray => x.size ≤ maxLen) rfl (by kernel_rfl) (open_str Tryz.underlying9)))))) (by intro a h; exact h)
set_option maxRecDepth 100000 in
theorem lifted (os : Os) (started : os.Started) (H : Type) (enc : TypeId × Value → H) :
    ReturnsInHanded {} Tryz.checked os 9 .any (Rows.fnExactNewTierSpec.pre6 enc Tryz.prog Tryz.f9 Rows.fnExactNewTierRow.domain false) (Rows.fnExactNewTierSpec.post enc Tryz.prog Tryz.f9 false true false false) := by
  refine returnsInHanded_of_change_sized (C := Tryz.checked) own started (by kernel_rfl) Tryz.func9
    (ChangeSpec.witness6 (enc := enc) (C := Tryz.checked) false ⟨#[], #[.agg #[.slice none 0 0, .slice none 0 0], .slice none 0 0], []⟩ 8 (by kernel_rfl) (by kernel_rfl) (by kernel_rfl) (by kernel_rfl)) ?_
  intro W base args ds gs before hval0 hW hcnd hsz0 _
  have hval : ∀ (j : Nat) t v, Tryz.f9.params[j]? = some t → args[j]? = some v → Value.okWide Tryz.prog W .any base t v := hval0
  have hW' := hW
  obtain ⟨p, q, hA0, hV, rfl, hfz, hnd⟩ := hW
  have hA : DataW.TrodAll enc Tryz.prog W 0 (fun _ => true) true Tryz.f9.params.toList args.toList ds p := hA0
  rw [Tryz.params9] at hA hval
  obtain ⟨v0, vs0, d0, ds0, p0, q0, hargs, rfl, rfl, h0, r0⟩ := trodAll_cons hA
  obtain ⟨v1, vs1, d1, ds1, p1, q1, rfl, rfl, rfl, h1, r1⟩ := trodAll_cons r0
  obtain ⟨rfl, rfl, rfl⟩ := trodAll_nil r1
  obtain rfl : args = #[v0, v1] := by cases args; simp_all
  obtain ⟨rfl, rfl⟩ := trodVars_none hV
  have k0' := h0
  have lt0 : ∀ x ∈ p0, x.block < W.heap.size := by obtain ⟨m, hm⟩ := k0'; exact DataW.trod_lt m _ _ _ hm
  obtain ⟨cs0, rfl, _⟩ := okWide_struct Tryz.underlying25 (hval 0 25 v0 rfl rfl)
  obtain ⟨⟨l0_0, l0_1⟩, K0, w0⟩ := OpenK.at_ o25t h0
  obtain ⟨_, _, x0_0, ⟨A0_0, c0_0, rfl, hc0_0, hr0_0⟩, ⟨A0_1, c0_1, rfl, hc0_1, hr0_1⟩⟩ := K0
  have xx0 : cs0.toList = _ := x0_0
  simp only [List.cons_append, List.nil_append] at xx0
  obtain rfl : cs0 = #[.slice A0_0 l0_0.length c0_0, .slice A0_1 l0_1.length c0_1] := by cases cs0; simp_all
  have k1' := h1
  have lt1 : ∀ x ∈ p1, x.block < W.heap.size := by obtain ⟨m, hm⟩ := k1'; exact DataW.trod_lt m _ _ _ hm
  obtain ⟨a1, len1, cap1, rfl⟩ := okWide_slice Tryz.underlying70 (hval 1 70 v1 rfl rfl)
  obtain ⟨l1, ⟨A1, c1, e1, hc1, hr1⟩, w1⟩ := OpenK.at_ (open_row (E := 29) Tryz.underlying70 (by kernel_rfl) o29) h1
  have e1' : [Value.slice a1 len1 cap1] = [.slice A1 l1.length c1] := e1
  simp only [List.cons.injEq, Value.slice.injEq, and_true] at e1'
  obtain ⟨rfl, rfl, rfl⟩ := e1'
  refine (Go.Proofs.YticlknijmnddeaaGreat.Dat.lawNewTier l0_0 l0_1 l1 W hr0_0 hc0_0 hr0_1 hc0_1 hr1 hc1 (w0.1) (w0.2) w1).mono fun e W' ⟨he, bel⟩ => ?_
  subst he
  exact ⟨_, rfl, _, _, _, [], _, [], hW', trodAll_mk1 (shut_bool Tryz.underlying4 _), (trodAll_cons_mk (Below.trod laidOut (by kernel_rfl) (of_decide_eq_true (by kernel_rfl)) k0' bel lt0) (trodAll_cons_mk (Below.trod laidOut (by kernel_rfl) (of_decide_eq_true (by kernel_rfl)) k1' bel lt1) trodAll_mk0)), rfl, bel.frame _, fun h => by cases h⟩
set_option maxHeartbeats 4000000 in
theorem over : Rows.fnExactNewTierRow.holds Tryz.pinned (OpenSpec.ofChange Rows.fnExactNewTierSpec) :=
  OpenClaim.holds_of_wide 9 Tryz.f9 rfl rfl rfl rfl rfl rfl rfl ⟨rfl, rfl, rfl, rfl, rfl⟩ rfl rfl rfl rfl rfl (by as_aux_lemma => kernel_rfl) Tryz.func9 (by as_aux_lemma => kernel_rfl)
    (of_decide_eq_true (by as_aux_lemma => kernel_rfl)) (by unfold Func.isWrapper; first | (rw [if_pos (by decide +kernel)]; kernel_rfl) | (rw [if_neg (by decide +kernel)]; exact ⟨rfl, rfl⟩))
    (fun os started H enc _ => lifted os started H enc)
theorem proved : Rows.FnExactNewTierSaid := over
#print axioms proved
end Go.Proofs.YticlknijmnddeaaGreat.fnExactNewTier
namespace Go.Proofs.YticlknijmnddeaaGreat
/-- The row, under a short name, for the claim. -/
theorem fnExactNewTier_holds : Rows.FnExactNewTierSaid := fnExactNewTier.proved
end Go.Proofs.YticlknijmnddeaaGreat
