/- The laws' own functions over Fast. Written by a program (recgen.py). -/
import Derived.Test.YthinhlcfpaaldaaGreatK4
import Derived.Test.YthinhlcfpaaldaaGreatGExit
import Derived.Test.YthinhlcfpaaldaaGreatGFOp
namespace Go.Proofs.YthinhlcfpaaldaaGreat.Dat
open Go Go.RowKit Go.Proofs.YthinhlcfpaaldaaGreat.Mem
set_option linter.unusedVariables false
set_option linter.unusedSimpArgs false
structure DFast where
  fn : Int
  entry : Int
  vals : Int
  nums : Int
  ops : List DFOp
  exits : List DExit
/-- What is handed in meets this. -/
def VFast (x : DFast) : Prop := (Lit.int .i64 x.fn).wf = true ∧ (Lit.int .i64 x.entry).wf = true ∧ (Lit.int .i64 x.vals).wf = true ∧ (Lit.int .i64 x.nums).wf = true ∧ (x.ops.length ≤ maxLen ∧ ∀ y ∈ x.ops, VFOp y) ∧ (x.exits.length ≤ maxLen ∧ ∀ y ∈ x.exits, VExit y)
def msFast (x : DFast) : Nat := sumOf msFOp x.ops + sumOf msExit x.exits
/-- What a small measure gives. -/
def MFast (x : DFast) : Prop := (x.ops.length ≤ 1048576 ∧ ∀ y ∈ x.ops, MFOp y) ∧ (x.exits.length ≤ 1048576 ∧ ∀ y ∈ x.exits, MExit y)
theorem MFast_of {x : DFast} (h : msFast x ≤ 1048576) : MFast x := by
  unfold msFast at h
  try simp only [sumOf] at h
  unfold MFast
  exact ⟨⟨by omega, fun y hy => by have h9 := mem_sum msFOp _ y hy; exact MFOp_of (by omega)⟩, ⟨by omega, fun y hy => by have h9 := mem_sum msExit _ y hy; exact MExit_of (by omega)⟩⟩
set_option maxHeartbeats 4000000 in
set_option maxRecDepth 100000 in
theorem szFast_c (A4 A5 : Option Addr) (c4 c5 : Nat) (x : DFast) (left : Int) (w : World) (r4 : kFOp.Row w A4 x.ops.length x.ops) (r5 : kExit.Row w A5 x.exits.length x.exits) (hV : VFast x) (h0 : 0 ≤ left) (h1 : left ≤ 1048576) : Calls Tryz.prog 12 #[.agg #[.int .i64 x.fn, .int .i64 x.entry, .int .i64 x.vals, .int .i64 x.nums, .slice A4 x.ops.length c4, .slice A5 x.exits.length c5], .int .i64 left] w fun e w' => e = .returned (.int .i64 (lft (msFast x) left)) ∧ Below w.heap.size w w' := by
  have hS := (St.start w).made (.cells #[.int .i64 x.fn, .int .i64 x.entry, .int .i64 x.vals, .int .i64 x.nums, .slice A4 x.ops.length c4, .slice A5 x.exits.length c5] 29 (0, 0))
  by_cases k0 : ((sumOf msFOp x.ops : Nat) : Int) ≤ left
  rotate_left
  · skip
    have C0 := szFOpS_c A4 c4 x.ops left
    rw [lft_gt (by omega)] at C0
    have HE := Lib.hid (show (-1 : Int) = lft (msFast x) left by unfold msFast; rw [lft_gt (by omega)])
    go_enter Tryz.func12, Tryz.ntmps12
    go_wp2_with fail
    refine (C0 _ (r4.below hS.bel) hV.2.2.2.2.1.1 hV.2.2.2.2.1.2 (by omega) (by omega)).mono ?_
    rintro e w1 ⟨rfl, hb⟩
    replace hS := hS.step hb
    have xb := hS.cell 0 rfl
    have yb := hS.blt 0 rfl
    clear hb
    go_wp2
    go_ret
    exact ⟨ret_int HE.out, hS.bel⟩
  by_cases k1 : ((sumOf msExit x.exits : Nat) : Int) ≤ left - (sumOf msFOp x.ops : Int)
  rotate_left
  · skip
    have C0 := szFOpS_c A4 c4 x.ops left
    rw [lft_le k0] at C0
    have C1 := szExitS_c A5 c5 x.exits (left - (sumOf msFOp x.ops : Int))
    rw [lft_gt (by omega)] at C1
    have g0 : 0 ≤ left - (sumOf msFOp x.ops : Int) := by omega
    have HE := Lib.hid (show (-1 : Int) = lft (msFast x) left by unfold msFast; rw [lft_gt (by omega)])
    go_enter Tryz.func12, Tryz.ntmps12
    go_wp2_with fail
    refine (C0 _ (r4.below hS.bel) hV.2.2.2.2.1.1 hV.2.2.2.2.1.2 (by omega) (by omega)).mono ?_
    rintro e w1 ⟨rfl, hb⟩
    replace hS := hS.step hb
    have xb := hS.cell 0 rfl
    have yb := hS.blt 0 rfl
    clear hb
    go_wp2_with fail
    refine (C1 _ (r5.below hS.bel) hV.2.2.2.2.2.1 hV.2.2.2.2.2.2 (by omega) (by omega)).mono ?_
    rintro e w2 ⟨rfl, hb⟩
    replace hS := hS.step hb
    have xb := hS.cell 0 rfl
    have yb := hS.blt 0 rfl
    clear hb
    go_wp2
    go_ret
    exact ⟨ret_int HE.out, hS.bel⟩
  have C0 := szFOpS_c A4 c4 x.ops left
  rw [lft_le k0] at C0
  have C1 := szExitS_c A5 c5 x.exits (left - (sumOf msFOp x.ops : Int))
  rw [lft_le k1] at C1
  have g0 : 0 ≤ left - (sumOf msFOp x.ops : Int) := by omega
  have g1 : 0 ≤ left - (sumOf msFOp x.ops : Int) - (sumOf msExit x.exits : Int) := by omega
  have HE := Lib.hid (show left - (sumOf msFOp x.ops : Int) - (sumOf msExit x.exits : Int) = lft (msFast x) left by unfold msFast; rw [lft_le (by omega)]; omega)
  go_enter Tryz.func12, Tryz.ntmps12
  go_wp2_with fail
  refine (C0 _ (r4.below hS.bel) hV.2.2.2.2.1.1 hV.2.2.2.2.1.2 (by omega) (by omega)).mono ?_
  rintro e w1 ⟨rfl, hb⟩
  replace hS := hS.step hb
  have xb := hS.cell 0 rfl
  have yb := hS.blt 0 rfl
  clear hb
  go_wp2_with fail
  refine (C1 _ (r5.below hS.bel) hV.2.2.2.2.2.1 hV.2.2.2.2.2.2 (by omega) (by omega)).mono ?_
  rintro e w2 ⟨rfl, hb⟩
  replace hS := hS.step hb
  have xb := hS.cell 0 rfl
  have yb := hS.blt 0 rfl
  clear hb
  go_wp2
  go_ret
  exact ⟨ret_int HE.out, hS.bel⟩
set_option maxHeartbeats 4000000 in
set_option maxRecDepth 100000 in
theorem toFast_c (A4 A5 : Option Addr) (c4 c5 : Nat) (x : DFast) (w : World) (r4 : kFOp.Row w A4 x.ops.length x.ops) (r5 : kExit.Row w A5 x.exits.length x.exits) (hM : MFast x) : Calls Tryz.prog 15 #[.agg #[.int .i64 x.fn, .int .i64 x.entry, .int .i64 x.vals, .int .i64 x.nums, .slice A4 x.ops.length c4, .slice A5 x.exits.length c5]] w (fun en w' => ∃ (v4 v5 : Value) (F4 F5 : List Nat), en = .returned (.agg #[.int .i64 x.fn, .int .i64 x.entry, .int .i64 x.vals, .int .i64 x.nums, v4, v5]) ∧ St w [Res.own kFOp 164 v4 x.ops F4, Res.own kExit 168 v5 x.exits F5] w') := by
  go_enter Tryz.func15, Tryz.ntmps15
  go_wp2_with fail
  refine (toFOpS_c A4 c4 x.ops _ (r4.below bl9) hM.1).mono ?_
  rintro e w1 ⟨v4, F4, rfl, ho4, hnd4, hF4, hb1⟩
  obtain ⟨Av4, cv4, rfl, _, _⟩ := ho4.row
  obtain ⟨hc1, hf1⟩ := bcell hb1
  have hz1 := hb1.size
  simp at hz1
  have y10 : w.heap.size < w1.heap.size := by omega
  have y11 : w.heap.size + 1 < w1.heap.size := by omega
  have y12 : w.heap.size + 1 + 1 < w1.heap.size := by omega
  have hG4 : ∀ g ∈ F4, w.heap.size + 3 ≤ g := fun g hg => by have := hF4 g hg; simp at this; omega
  have hl4 := ho4.lt
  have hW1 : Below w.heap.size w w1 := bl9
  go_wp2_with fail
  refine (toExitS_c A5 c5 x.exits _ (r5.below bl9) hM.2).mono ?_
  rintro e w2 ⟨v5, F5, rfl, ho5, hnd5, hF5, hb2⟩
  obtain ⟨Av5, cv5, rfl, _, _⟩ := ho5.row
  obtain ⟨hc2, hf2⟩ := bcell hb2
  have hz2 := hb2.size
  simp at hz2
  have y20 : w.heap.size < w2.heap.size := by omega
  have y21 : w.heap.size + 1 < w2.heap.size := by omega
  have y22 : w.heap.size + 1 + 1 < w2.heap.size := by omega
  have hG5 : ∀ g ∈ F5, w.heap.size + 3 ≤ g := fun g hg => by have := hF5 g hg; simp at this; omega
  have hl5 := ho5.lt
  have hd5_4 : ∀ g ∈ F5, g ∉ F4 := fun g hg hm => by have h8 := hl4 g hm; have h9 := hF5 g hg; simp at h9; omega
  have hW2 : Below w.heap.size w w2 := bl9
  go_wp2
  refine bodyPost_ret (v := .agg #[.int .i64 x.fn, .int .i64 x.entry, .int .i64 x.vals, .int .i64 x.nums, .slice Av4 x.ops.length cv4, .slice Av5 x.exits.length cv5]) (by simp [results, Tryz.results15, go_sem, *]) rfl ⟨_, _, F4, F5, rfl, ?_⟩
  refine St.cons (St.cons (St.bare bl9) ?_ hnd5 (fun g hg => by have := hG5 g hg; omega) (by simp)) ?_ hnd4 (fun g hg => by have := hG4 g hg; omega) (by simp only [List.forall_mem_cons]; exact ⟨fun g hg hm => hd5_4 g hm hg, by simp⟩)
  · show kExit.Own 168 _ _ _ _
    repeat (first | (with_reducible exact ho5) | (refine Knd.Own.set_old ?_ hG5 (by dsimp only; omega) _) | (refine Knd.Own.below ?_ hb2) | (refine Knd.Own.below ?_ hb1))
  · show kFOp.Own 164 _ _ _ _
    repeat (first | (with_reducible exact ho4) | (refine Knd.Own.set_old ?_ hG4 (by dsimp only; omega) _) | (refine Knd.Own.below ?_ hb2) | (refine Knd.Own.below ?_ hb1))
set_option maxHeartbeats 4000000 in
set_option maxRecDepth 100000 in
theorem eqFast_c (A4 A5 : Option Addr) (c4 c5 : Nat) (A4z A5z : Option Addr) (c4z c5z : Nat) (x : DFast) (w : World) (r4 : kFOp.Row w A4 x.ops.length x.ops) (r5 : kExit.Row w A5 x.exits.length x.exits) (r4z : kFOp.Row w A4z x.ops.length x.ops) (r5z : kExit.Row w A5z x.exits.length x.exits) : Calls Tryz.prog 19 #[.agg #[.int .i64 x.fn, .int .i64 x.entry, .int .i64 x.vals, .int .i64 x.nums, .slice A4 x.ops.length c4, .slice A5 x.exits.length c5], .agg #[.int .i64 x.fn, .int .i64 x.entry, .int .i64 x.vals, .int .i64 x.nums, .slice A4z x.ops.length c4z, .slice A5z x.exits.length c5z]] w fun e w' => e = .returned (.bool true) ∧ Below w.heap.size w w' := by
  have hS := ((St.start w).made (.cells #[.int .i64 x.fn, .int .i64 x.entry, .int .i64 x.vals, .int .i64 x.nums, .slice A4 x.ops.length c4, .slice A5 x.exits.length c5] 41 (0, 0))).madeAt (.cells #[.int .i64 x.fn, .int .i64 x.entry, .int .i64 x.vals, .int .i64 x.nums, .slice A4z x.ops.length c4z, .slice A5z x.exits.length c5z] 41 (0, 0)) (w.heap.size + 1) (by simp)
  go_enter Tryz.func19, Tryz.ntmps19
  go_wp2_with fail
  refine (eqFOpS_c A4 A4z c4 c4z x.ops _ (r4.below hS.bel) (r4z.below hS.bel)).mono ?_
  rintro e w1 ⟨rfl, hb⟩
  replace hS := hS.step hb
  have xb := hS.cell 0 rfl
  have xa := hS.cell 1 rfl
  have yb := hS.blt 0 rfl
  have ya := hS.blt 1 rfl
  clear hb
  go_wp2_with fail
  refine (eqExitS_c A5 A5z c5 c5z x.exits _ (r5.below hS.bel) (r5z.below hS.bel)).mono ?_
  rintro e w2 ⟨rfl, hb⟩
  replace hS := hS.step hb
  have xb := hS.cell 0 rfl
  have xa := hS.cell 1 rfl
  have yb := hS.blt 0 rfl
  have ya := hS.blt 1 rfl
  clear hb
  go_wp2
  go_ret
  exact ⟨rfl, hS.bel⟩
end Go.Proofs.YthinhlcfpaaldaaGreat.Dat
