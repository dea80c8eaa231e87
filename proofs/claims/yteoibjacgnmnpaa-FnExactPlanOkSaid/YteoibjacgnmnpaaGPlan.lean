/- The laws' own functions over Plan. Written by a program (recgen.py). -/
import Derived.Test.YteoibjacgnmnpaaGB
import Derived.Test.YteoibjacgnmnpaaGSpec
namespace Go.Proofs.Yteoibjacgnmnpaa.Dat
open Go Go.RowKit Go.Proofs.Yteoibjacgnmnpaa.Mem
set_option linter.unusedVariables false
set_option linter.unusedSimpArgs false
structure DPlan where
  specs : List DSpec
  lay : Int
  bare : Bool
def zPlan : DPlan := ⟨[], 0, false⟩
def kPlan : Knd DPlan := Knd.iso (Knd.pair (Knd.slice 169 kSpec) (Knd.pair (Knd.int .i64) Knd.bool)) (fun x => (x.specs, x.lay, x.bare))
/-- What is handed in meets this. -/
def VPlan (x : DPlan) : Prop := (x.specs.length ≤ maxLen ∧ ∀ y ∈ x.specs, VSpec y) ∧ (Lit.int .i64 x.lay).wf = true ∧ True
theorem kPlan_K {w : World} {x : DPlan} {cs : List Value} : kPlan.K w x cs ↔ ∃ (A0 : Option Addr) (c0 : Nat), cs = [.slice A0 x.specs.length c0, .int .i64 x.lay, .bool x.bare] ∧ x.specs.length ≤ c0 ∧ kSpec.Row w A0 x.specs.length x.specs := by
  constructor
  · rintro ⟨_, _, rfl, ⟨A_specs, c_specs, rfl, hl_specs, hr_specs⟩, ⟨_, _, rfl, rfl, rfl⟩⟩
    exact ⟨A_specs, c_specs, rfl, hl_specs, hr_specs⟩
  · rintro ⟨A0, c0, rfl, h0, r0⟩
    exact ⟨[.slice A0 x.specs.length c0], [.int .i64 x.lay, .bool x.bare], rfl, ⟨A0, c0, rfl, h0, r0⟩, ⟨[.int .i64 x.lay], [.bool x.bare], rfl, rfl, rfl⟩⟩
theorem kPlan_at {w : World} {A : Option Addr} {m : Nat} {xs : List DPlan} (h : kPlan.Row w A m xs) (i : Nat) (x : DPlan) (hx : xs[i]? = some x) : ∃ (ad : Addr) (A0 : Option Addr) (c0 : Nat), A = some ad ∧ w.cell? (ad.add (i * 3)) = some (.slice A0 x.specs.length c0) ∧ w.cell? ⟨(ad.add (i * 3)).block, (ad.add (i * 3)).off + 1, none⟩ = some (.int .i64 x.lay) ∧ w.cell? ⟨(ad.add (i * 3)).block, (ad.add (i * 3)).off + 2, none⟩ = some (.bool x.bare) ∧ x.specs.length ≤ c0 ∧ kSpec.Row w A0 x.specs.length x.specs := by
  obtain ⟨ad, c, e, hK, hc0⟩ := h.get i x hx
  have hc : ∀ j u, c[j]? = some u → w.cell? (ad.add (i * 3 + j)) = some u := hc0
  obtain ⟨A0, c0, rfl, h0, r0⟩ := kPlan_K.1 hK
  exact ⟨ad, A0, c0, e, hc 0 _ rfl, (by rw [← add_field _ _ 1 (by omega)]; exact hc 1 _ rfl), (by rw [← add_field _ _ 2 (by omega)]; exact hc 2 _ rfl), h0, r0⟩
def ctPlan (x : DPlan) : Nat := 2 + ctL ctSpec x.specs
def mkPlan (k : Int) (x : DPlan) : DPlan := { specs := mkL mkSpec ctSpec (k + 1 + 1) x.specs, lay := k + 1, bare := decide ((k + 1 + 1) % 3 = 0) }
theorem kPlan_Oi {w : World} {x : DPlan} {cs : List Value} {F : List Nat} : kPlan.O w x cs F ↔ ∃ (v0 : Value) (F0 : List Nat), cs = [v0, .int .i64 x.lay, .bool x.bare] ∧ F = F0 ∧ kSpec.Own 169 w v0 x.specs F0 := by
  constructor
  · rintro ⟨_, _, _, _, rfl, rfl, ⟨v0, rfl, o0⟩, ⟨_, _, _, _, rfl, rfl, ⟨rfl, rfl⟩, ⟨rfl, rfl⟩⟩⟩
    exact ⟨v0, _, rfl, by simp, o0⟩
  · rintro ⟨v0, F0, rfl, rfl, o0⟩
    have h : kPlan.O w x [v0, .int .i64 x.lay, .bool x.bare] ((F ++ ([] ++ []))) := ⟨[v0], [.int .i64 x.lay, .bool x.bare], F, ([] ++ []), rfl, by simp, ⟨v0, rfl, o0⟩, ⟨[.int .i64 x.lay], [.bool x.bare], [], [], rfl, by simp, ⟨rfl, rfl⟩, ⟨rfl, rfl⟩⟩⟩
    simpa using h
def msPlan (x : DPlan) : Nat := x.specs.length
/-- What a small measure gives. -/
def MPlan (x : DPlan) : Prop := (x.specs.length ≤ 1048576)
theorem MPlan_of {x : DPlan} (h : msPlan x ≤ 1048576) : MPlan x := by
  unfold msPlan at h
  try simp only [sumOf] at h
  unfold MPlan
  exact by omega
set_option maxHeartbeats 4000000 in
set_option maxRecDepth 100000 in
theorem szPlan_c (A0 : Option Addr) (c0 : Nat) (x : DPlan) (left : Int) (w : World) (r0 : kSpec.Row w A0 x.specs.length x.specs) (hV : VPlan x) (h0 : 0 ≤ left) (h1 : left ≤ 1048576) : Calls Try.prog 38 #[.agg #[.slice A0 x.specs.length c0, .int .i64 x.lay, .bool x.bare], .int .i64 left] w fun e w' => e = .returned (.int .i64 (lft (msPlan x) left)) ∧ Below w.heap.size w w' := by
  have hS := (St.start w).made (.cells #[.slice A0 x.specs.length c0, .int .i64 x.lay, .bool x.bare] 58 (0, 0))
  by_cases k0 : ((x.specs.length : Nat) : Int) ≤ left
  rotate_left
  · skip
    have C0 := szSpecS_c A0 c0 x.specs left
    rw [lft_gt (by omega)] at C0
    have HE := Lib.hid (show (-1 : Int) = lft (msPlan x) left by unfold msPlan; rw [lft_gt (by omega)])
    go_enter Try.func38, Try.ntmps38
    go_wp2_with fail
    refine (C0 _ (r0.below hS.bel) hV.1.1 hV.1.2 (by omega) (by omega)).mono ?_
    rintro e w1 ⟨rfl, hb⟩
    replace hS := hS.step hb
    have xb := hS.cell 0 rfl
    have yb := hS.blt 0 rfl
    clear hb
    go_wp2
    go_ret
    exact ⟨ret_int HE.out, hS.bel⟩
  have C0 := szSpecS_c A0 c0 x.specs left
  rw [lft_le k0] at C0
  have g0 : 0 ≤ left - (x.specs.length : Int) := by omega
  have HE := Lib.hid (show left - (x.specs.length : Int) = lft (msPlan x) left by unfold msPlan; rw [lft_le (by omega)])
  go_enter Try.func38, Try.ntmps38
  go_wp2_with fail
  refine (C0 _ (r0.below hS.bel) hV.1.1 hV.1.2 (by omega) (by omega)).mono ?_
  rintro e w1 ⟨rfl, hb⟩
  replace hS := hS.step hb
  have xb := hS.cell 0 rfl
  have yb := hS.blt 0 rfl
  clear hb
  go_wp2
  go_ret
  exact ⟨ret_int HE.out, hS.bel⟩
theorem infoPlan : (Try.prog.info? 63).map (fun i => (i.zero, i.size, i.bytes)) = some (some (.agg #[.slice none 0 0, .int .i64 0, .bool false]), 3, 40) := by kernel_rfl
set_option maxHeartbeats 4000000 in
set_option maxRecDepth 100000 in
theorem toPlan_c (A0 : Option Addr) (c0 : Nat) (x : DPlan) (w : World) (r0 : kSpec.Row w A0 x.specs.length x.specs) (hM : MPlan x) : Calls Try.prog 40 #[.agg #[.slice A0 x.specs.length c0, .int .i64 x.lay, .bool x.bare]] w (fun en w' => ∃ (v0 : Value) (F0 : List Nat), en = .returned (.agg #[v0, .int .i64 x.lay, .bool x.bare]) ∧ St w [Res.own kSpec 169 v0 x.specs F0] w') := by
  go_enter Try.func40, Try.ntmps40
  go_wp2_with fail
  refine (toSpecS_c A0 c0 x.specs _ (r0.below (by repeat (first | with_reducible exact Below.refl _ _ | with_reducible assumption | (with_reducible refine bl_set ?_ (by dsimp only; omega) _) | with_reducible refine bl_alloc ?_ _ | with_reducible refine bl_drewN ?_ _ | with_reducible refine bl_drew ?_ | with_reducible refine bl_step ?_ (by with_reducible assumption) | exact Below.refl _ _ | assumption | (refine bl_set ?_ (by dsimp only; omega) _) | refine bl_alloc ?_ _ | refine bl_drewN ?_ _ | refine bl_drew ?_ | refine bl_step ?_ (by assumption)))) hM).mono ?_
  rintro e w1 ⟨v0, F0, rfl, ho0, hnd0, hF0, hb1⟩
  obtain ⟨Av0, cv0, rfl, _, _⟩ := ho0.row
  obtain ⟨hc1, hf1⟩ := bcell hb1
  have hz1 := hb1.size
  simp at hz1
  have y10 : w.heap.size < w1.heap.size := by omega
  have y11 : w.heap.size + 1 < w1.heap.size := by omega
  have y12 : w.heap.size + 1 + 1 < w1.heap.size := by omega
  have hG0 : ∀ g ∈ F0, w.heap.size + 3 ≤ g := fun g hg => by have := hF0 g hg; simp at this; omega
  have hl0 := ho0.lt
  have hW1 : Below w.heap.size w w1 := (by repeat (first | with_reducible exact Below.refl _ _ | with_reducible assumption | (with_reducible refine bl_set ?_ (by dsimp only; omega) _) | with_reducible refine bl_alloc ?_ _ | with_reducible refine bl_drewN ?_ _ | with_reducible refine bl_drew ?_ | with_reducible refine bl_step ?_ (by with_reducible assumption) | exact Below.refl _ _ | assumption | (refine bl_set ?_ (by dsimp only; omega) _) | refine bl_alloc ?_ _ | refine bl_drewN ?_ _ | refine bl_drew ?_ | refine bl_step ?_ (by assumption)))
  go_wp2
  refine bodyPost_ret (v := .agg #[.slice Av0 x.specs.length cv0, .int .i64 x.lay, .bool x.bare]) (by simp [results, Try.results40, go_sem, *]) rfl ⟨_, F0, rfl, ?_⟩
  refine St.cons (St.bare (by repeat (first | with_reducible exact Below.refl _ _ | with_reducible assumption | (with_reducible refine bl_set ?_ (by dsimp only; omega) _) | with_reducible refine bl_alloc ?_ _ | with_reducible refine bl_drewN ?_ _ | with_reducible refine bl_drew ?_ | with_reducible refine bl_step ?_ (by with_reducible assumption) | exact Below.refl _ _ | assumption | (refine bl_set ?_ (by dsimp only; omega) _) | refine bl_alloc ?_ _ | refine bl_drewN ?_ _ | refine bl_drew ?_ | refine bl_step ?_ (by assumption)))) ?_ hnd0 (fun g hg => by have := hG0 g hg; omega) (by simp)
  · show kSpec.Own 169 _ _ _ _
    repeat (first | (with_reducible exact ho0) | (refine Knd.Own.set_old ?_ hG0 (by dsimp only; omega) _) | (refine Knd.Own.below ?_ hb1))
theorem zPlan_O (w : World) : kPlan.O w zPlan (Value.agg #[.slice none 0 0, .int .i64 0, .bool false]).cells.toList [] := kPlan_Oi.2 ⟨.slice none 0 0, [], rfl, rfl, Knd.Own.nil _ _ _⟩
set_option maxHeartbeats 4000000 in
set_option maxRecDepth 100000 in
theorem eqPlan_c (A0 : Option Addr) (c0 : Nat) (A0z : Option Addr) (c0z : Nat) (x : DPlan) (w : World) (r0 : kSpec.Row w A0 x.specs.length x.specs) (r0z : kSpec.Row w A0z x.specs.length x.specs) : Calls Try.prog 42 #[.agg #[.slice A0 x.specs.length c0, .int .i64 x.lay, .bool x.bare], .agg #[.slice A0z x.specs.length c0z, .int .i64 x.lay, .bool x.bare]] w fun e w' => e = .returned (.bool true) ∧ Below w.heap.size w w' := by
  have hS := ((St.start w).made (.cells #[.slice A0 x.specs.length c0, .int .i64 x.lay, .bool x.bare] 63 (0, 0))).madeAt (.cells #[.slice A0z x.specs.length c0z, .int .i64 x.lay, .bool x.bare] 63 (0, 0)) (w.heap.size + 1) (by simp)
  go_enter Try.func42, Try.ntmps42
  go_wp2_with fail
  refine (eqSpecS_c A0 A0z c0 c0z x.specs _ (r0.below hS.bel) (r0z.below hS.bel)).mono ?_
  rintro e w1 ⟨rfl, hb⟩
  replace hS := hS.step hb
  have xb := hS.cell 0 rfl
  have xa := hS.cell 1 rfl
  have yb := hS.blt 0 rfl
  have ya := hS.blt 1 rfl
  clear hb
  go_wp2
  go_ret
  exact ⟨rfl, hS.bel⟩
end Go.Proofs.Yteoibjacgnmnpaa.Dat
