/- The laws' own functions over Fast. Written by a program (recgen.py). -/
import Derived.Test.YthinhlcfpaaldaaGreatK4
import Derived.Test.YthinhlcfpaaldaaGreatGExit
import Derived.Test.YthinhlcfpaaldaaGreatGFOp
namespace Go.Proofs.YthinhlcfpaaldaaGreat.Dat
open Go Go.RowKit Go.Proofs.YthinhlcfpaaldaaGreat.Mem
set_option linter.unusedVariables false
set_option linter.unusedSimpArgs false
structure DFast where
  fn : Int
  entry : Int
  vals : Int
  nums : Int
  ops : List DFOp
  exits : List DExit
def zFast : DFast := ⟨0, 0, 0, 0, [], []⟩
def kFast : Knd DFast := Knd.iso (Knd.pair (Knd.int .i64) (Knd.pair (Knd.int .i64) (Knd.pair (Knd.int .i64) (Knd.pair (Knd.int .i64) (Knd.pair (Knd.slice 164 kFOp) (Knd.slice 168 kExit)))))) (fun x => (x.fn, x.entry, x.vals, x.nums, x.ops, x.exits))
/-- What is handed in meets this. -/
def VFast (x : DFast) : Prop := (Lit.int .i64 x.fn).wf = true ∧ (Lit.int .i64 x.entry).wf = true ∧ (Lit.int .i64 x.vals).wf = true ∧ (Lit.int .i64 x.nums).wf = true ∧ (x.ops.length ≤ maxLen ∧ ∀ y ∈ x.ops, VFOp y) ∧ (x.exits.length ≤ maxLen ∧ ∀ y ∈ x.exits, VExit y)
theorem kFast_K {w : World} {x : DFast} {cs : List Value} : kFast.K w x cs ↔ ∃ (A4 A5 : Option Addr) (c4 c5 : Nat), cs = [.int .i64 x.fn, .int .i64 x.entry, .int .i64 x.vals, .int .i64 x.nums, .slice A4 x.ops.length c4, .slice A5 x.exits.length c5] ∧ x.ops.length ≤ c4 ∧ kFOp.Row w A4 x.ops.length x.ops ∧ x.exits.length ≤ c5 ∧ kExit.Row w A5 x.exits.length x.exits := by
  constructor
  · rintro ⟨_, _, rfl, rfl, ⟨_, _, rfl, rfl, ⟨_, _, rfl, rfl, ⟨_, _, rfl, rfl, ⟨_, _, rfl, ⟨A_ops, c_ops, rfl, hl_ops, hr_ops⟩, ⟨A_exits, c_exits, rfl, hl_exits, hr_exits⟩⟩⟩⟩⟩⟩
    exact ⟨A_ops, A_exits, c_ops, c_exits, rfl, hl_ops, hr_ops, hl_exits, hr_exits⟩
  · rintro ⟨A4, A5, c4, c5, rfl, h4, r4, h5, r5⟩
    exact ⟨[.int .i64 x.fn], [.int .i64 x.entry, .int .i64 x.vals, .int .i64 x.nums, .slice A4 x.ops.length c4, .slice A5 x.exits.length c5], rfl, rfl, ⟨[.int .i64 x.entry], [.int .i64 x.vals, .int .i64 x.nums, .slice A4 x.ops.length c4, .slice A5 x.exits.length c5], rfl, rfl, ⟨[.int .i64 x.vals], [.int .i64 x.nums, .slice A4 x.ops.length c4, .slice A5 x.exits.length c5], rfl, rfl, ⟨[.int .i64 x.nums], [.slice A4 x.ops.length c4, .slice A5 x.exits.length c5], rfl, rfl, ⟨[.slice A4 x.ops.length c4], [.slice A5 x.exits.length c5], rfl, ⟨A4, c4, rfl, h4, r4⟩, ⟨A5, c5, rfl, h5, r5⟩⟩⟩⟩⟩⟩
theorem kFast_at {w : World} {A : Option Addr} {m : Nat} {xs : List DFast} (h : kFast.Row w A m xs) (i : Nat) (x : DFast) (hx : xs[i]? = some x) : ∃ (ad : Addr) (A4 A5 : Option Addr) (c4 c5 : Nat), A = some ad ∧ w.cell? (ad.add (i * 6)) = some (.int .i64 x.fn) ∧ w.cell? ⟨(ad.add (i * 6)).block, (ad.add (i * 6)).off + 1, none⟩ = some (.int .i64 x.entry) ∧ w.cell? ⟨(ad.add (i * 6)).block, (ad.add (i * 6)).off + 2, none⟩ = some (.int .i64 x.vals) ∧ w.cell? ⟨(ad.add (i * 6)).block, (ad.add (i * 6)).off + 3, none⟩ = some (.int .i64 x.nums) ∧ w.cell? ⟨(ad.add (i * 6)).block, (ad.add (i * 6)).off + 4, none⟩ = some (.slice A4 x.ops.length c4) ∧ w.cell? ⟨(ad.add (i * 6)).block, (ad.add (i * 6)).off + 5, none⟩ = some (.slice A5 x.exits.length c5) ∧ x.ops.length ≤ c4 ∧ kFOp.Row w A4 x.ops.length x.ops ∧ x.exits.length ≤ c5 ∧ kExit.Row w A5 x.exits.length x.exits := by
  obtain ⟨ad, c, e, hK, hc0⟩ := h.get i x hx
  have hc : ∀ j u, c[j]? = some u → w.cell? (ad.add (i * 6 + j)) = some u := hc0
  obtain ⟨A4, A5, c4, c5, rfl, h4, r4, h5, r5⟩ := kFast_K.1 hK
  exact ⟨ad, A4, A5, c4, c5, e, hc 0 _ rfl, (by rw [← add_field _ _ 1 (by omega)]; exact hc 1 _ rfl), (by rw [← add_field _ _ 2 (by omega)]; exact hc 2 _ rfl), (by rw [← add_field _ _ 3 (by omega)]; exact hc 3 _ rfl), (by rw [← add_field _ _ 4 (by omega)]; exact hc 4 _ rfl), (by rw [← add_field _ _ 5 (by omega)]; exact hc 5 _ rfl), h4, r4, h5, r5⟩
theorem kFast_Oi {w : World} {x : DFast} {cs : List Value} {F : List Nat} : kFast.O w x cs F ↔ ∃ (v4 v5 : Value) (F4 F5 : List Nat), cs = [.int .i64 x.fn, .int .i64 x.entry, .int .i64 x.vals, .int .i64 x.nums, v4, v5] ∧ F = F4 ++ F5 ∧ kFOp.Own 164 w v4 x.ops F4 ∧ kExit.Own 168 w v5 x.exits F5 := by
  constructor
  · rintro ⟨_, _, _, _, rfl, rfl, ⟨rfl, rfl⟩, ⟨_, _, _, _, rfl, rfl, ⟨rfl, rfl⟩, ⟨_, _, _, _, rfl, rfl, ⟨rfl, rfl⟩, ⟨_, _, _, _, rfl, rfl, ⟨rfl, rfl⟩, ⟨_, _, _, _, rfl, rfl, ⟨v4, rfl, o4⟩, ⟨v5, rfl, o5⟩⟩⟩⟩⟩⟩
    exact ⟨v4, v5, _, _, rfl, by simp, o4, o5⟩
  · rintro ⟨v4, v5, F4, F5, rfl, rfl, o4, o5⟩
    have h : kFast.O w x [.int .i64 x.fn, .int .i64 x.entry, .int .i64 x.vals, .int .i64 x.nums, v4, v5] (([] ++ ([] ++ ([] ++ ([] ++ (F4 ++ F5)))))) := ⟨[.int .i64 x.fn], [.int .i64 x.entry, .int .i64 x.vals, .int .i64 x.nums, v4, v5], [], ([] ++ ([] ++ ([] ++ (F4 ++ F5)))), rfl, by simp, ⟨rfl, rfl⟩, ⟨[.int .i64 x.entry], [.int .i64 x.vals, .int .i64 x.nums, v4, v5], [], ([] ++ ([] ++ (F4 ++ F5))), rfl, by simp, ⟨rfl, rfl⟩, ⟨[.int .i64 x.vals], [.int .i64 x.nums, v4, v5], [], ([] ++ (F4 ++ F5)), rfl, by simp, ⟨rfl, rfl⟩, ⟨[.int .i64 x.nums], [v4, v5], [], (F4 ++ F5), rfl, by simp, ⟨rfl, rfl⟩, ⟨[v4], [v5], F4, F5, rfl, by simp, ⟨v4, rfl, o4⟩, ⟨v5, rfl, o5⟩⟩⟩⟩⟩⟩
    simpa using h
def msFast (x : DFast) : Nat := sumOf msFOp x.ops + sumOf msExit x.exits
/-- What a small measure gives. -/
def MFast (x : DFast) : Prop := (x.ops.length ≤ 1048576 ∧ ∀ y ∈ x.ops, MFOp y) ∧ (x.exits.length ≤ 1048576 ∧ ∀ y ∈ x.exits, MExit y)
theorem MFast_of {x : DFast} (h : msFast x ≤ 1048576) : MFast x := by
  unfold msFast at h
  try simp only [sumOf] at h
  unfold MFast
  exact ⟨⟨by omega, fun y hy => by have h9 := mem_sum msFOp _ y hy; exact MFOp_of (by omega)⟩, ⟨by omega, fun y hy => by have h9 := mem_sum msExit _ y hy; exact MExit_of (by omega)⟩⟩
set_option maxHeartbeats 4000000 in
set_option maxRecDepth 100000 in
theorem szFast_c (A4 A5 : Option Addr) (c4 c5 : Nat) (x : DFast) (left : Int) (w : World) (r4 : kFOp.Row w A4 x.ops.length x.ops) (r5 : kExit.Row w A5 x.exits.length x.exits) (hV : VFast x) (h0 : 0 ≤ left) (h1 : left ≤ 1048576) : Calls Tryz.prog 12 #[.agg #[.int .i64 x.fn, .int .i64 x.entry, .int .i64 x.vals, .int .i64 x.nums, .slice A4 x.ops.length c4, .slice A5 x.exits.length c5], .int .i64 left] w fun e w' => e = .returned (.int .i64 (lft (msFast x) left)) ∧ Below w.heap.size w w' := by
  have hS := (St.start w).made (.cells #[.int .i64 x.fn, .int .i64 x.entry, .int .i64 x.vals, .int .i64 x.nums, .slice A4 x.ops.length c4, .slice A5 x.exits.length c5] 29 (0, 0))
  by_cases k0 : ((sumOf msFOp x.ops : Nat) : Int) ≤ left
  rotate_left
  · skip
    have C0 := szFOpS_c A4 c4 x.ops left
    rw [lft_gt (by omega)] at C0
    have HE := Lib.hid (show (-1 : Int) = lft (msFast x) left by unfold msFast; rw [lft_gt (by omega)])
    go_enter Tryz.func12, Tryz.ntmps12
    go_wp2_with fail
    refine (C0 _ (r4.below hS.bel) hV.2.2.2.2.1.1 hV.2.2.2.2.1.2 (by omega) (by omega)).mono ?_
    rintro e w1 ⟨rfl, hb⟩
    replace hS := hS.step hb
    have xb := hS.cell 0 rfl
    have yb := hS.blt 0 rfl
    clear hb
    go_wp2
    go_ret
    exact ⟨ret_int HE.out, hS.bel⟩
  by_cases k1 : ((sumOf msExit x.exits : Nat) : Int) ≤ left - (sumOf msFOp x.ops : Int)
  rotate_left
  · skip
    have C0 := szFOpS_c A4 c4 x.ops left
    rw [lft_le k0] at C0
    have C1 := szExitS_c A5 c5 x.exits (left - (sumOf msFOp x.ops : Int))
    rw [lft_gt (by omega)] at C1
    have g0 : 0 ≤ left - (sumOf msFOp x.ops : Int) := by omega
    have HE := Lib.hid (show (-1 : Int) = lft (msFast x) left by unfold msFast; rw [lft_gt (by omega)])
    go_enter Tryz.func12, Tryz.ntmps12
    go_wp2_with fail
    refine (C0 _ (r4.below hS.bel) hV.2.2.2.2.1.1 hV.2.2.2.2.1.2 (by omega) (by omega)).mono ?_
    rintro e w1 ⟨rfl, hb⟩
    replace hS := hS.step hb
    have xb := hS.cell 0 rfl
    have yb := hS.blt 0 rfl
    clear hb
    go_wp2_with fail
    refine (C1 _ (r5.below hS.bel) hV.2.2.2.2.2.1 hV.2.2.2.2.2.2 (by omega) (by omega)).mono ?_
    rintro e w2 ⟨rfl, hb⟩
    replace hS := hS.step hb
    have xb := hS.cell 0 rfl
    have yb := hS.blt 0 rfl
    clear hb
    go_wp2
    go_ret
    exact ⟨ret_int HE.out, hS.bel⟩
  have C0 := szFOpS_c A4 c4 x.ops left
  rw [lft_le k0] at C0
  have C1 := szExitS_c A5 c5 x.exits (left - (sumOf msFOp x.ops : Int))
  rw [lft_le k1] at C1
  have g0 : 0 ≤ left - (sumOf msFOp x.ops : Int) := by omega
  have g1 : 0 ≤ left - (sumOf msFOp x.ops : Int) - (sumOf msExit x.exits : Int) := by omega
  have HE := Lib.hid (show left - (sumOf msFOp x.ops : Int) - (sumOf msExit x.exits : Int) = lft (msFast x) left by unfold msFast; rw [lft_le (by omega)]; omega)
  go_enter Tryz.func12, Tryz.ntmps12
  go_wp2_with fail
  refine (C0 _ (r4.below hS.bel) hV.2.2.2.2.1.1 hV.2.2.2.2.1.2 (by omega) (by omega)).mono ?_
  rintro e w1 ⟨rfl, hb⟩
  replace hS := hS.step hb
  have xb := hS.cell 0 rfl
  have yb := hS.blt 0 rfl
  clear hb
  go_wp2_with fail
  refine (C1 _ (r5.below hS.bel) hV.2.2.2.2.2.1 hV.2.2.2.2.2.2 (by omega) (by omega)).mono ?_
  rintro e w2 ⟨rfl, hb⟩
  replace hS := hS.step hb
  have xb := hS.cell 0 rfl
  have yb := hS.blt 0 rfl
  clear hb
  go_wp2
  go_ret
  exact ⟨ret_int HE.out, hS.bel⟩
set_option maxHeartbeats 4000000 in
set_option maxRecDepth 100000 in
theorem szFastS_c (A : Option Addr) (c : Nat) (l : List DFast) (left : Int) (w : World) (hr : kFast.Row w A l.length l) (hm : l.length ≤ maxLen) (hv : ∀ x ∈ l, VFast x) (h0 : 0 ≤ left) (h1 : left ≤ 1048576) : Calls Tryz.prog 75 #[.slice A l.length c, .int .i64 left] w fun e w' => e = .returned (.int .i64 (lft (sumOf msFast l) left)) ∧ Below w.heap.size w w' := by
  unfold maxLen at hm
  by_cases h : (l.length : Int) ≤ left
  · have h2 : 0 ≤ left - (l.length : Int) := by omega
    go_enter Tryz.func75, Tryz.ntmps75
    go_wp2
    go_loopw [1, 5] (fun u i wr => ∃ k s : Nat, k ≤ l.length ∧ i = .int .i64 k ∧ Hid (s = ((l.take k).map msFast).sum) ∧ u = .int .i64 (left - l.length - s) ∧ 0 ≤ left - l.length - s ∧ Below w.heap.size w wr) (fun _ i _ => l.length - (intOf i).toNat)
    case atStart => exact ⟨0, 0, by omega, rfl, rfl, by simp, by simpa using h2, Below.refl _ _⟩
    case round =>
      obtain ⟨k, s, hk, rfl, hs, rfl, hp, hb⟩ := hrel
      by_cases hlt : k < l.length
      · obtain ⟨x, hx⟩ := get_ex l k hlt
        have hV := hv x (List.mem_of_getElem? hx)
        have hsn := sum_snoc msFast l k x hx
        have hle := sum_le msFast l (k + 1)
        obtain ⟨ad, A4y, A5y, c4y, c5y, rfl, q0, q1, q2, q3, q4, q5, hl4, hr4, hl5, hr5⟩ := kFast_at (hr.below hb) k x hx
        have HX := Lib.hid hx
        clear hx
        have C := szFast_c A4y A5y c4y c5y x (left - l.length - s)
        have HV := Lib.hid hV
        clear hV
        by_cases hf : (msFast x : Int) ≤ left - l.length - s
        · have HS : Hid (s + msFast x = ((l.take (k + 1)).map msFast).sum) := Lib.hid (by rw [hsn, ← hs.out])
          have e : lft (msFast x) (left - l.length - s) = left - l.length - ((s + msFast x : Nat) : Int) := by simp [lft, hf]; omega
          rw [e] at C
          have hp2 : 0 ≤ left - (l.length : Int) - ((s + msFast x : Nat) : Int) := by omega
          clear hsn hle hf e
          generalize s + msFast x = s2 at C HS hp2
          go_wp2_with fail
          refine (C _ hr4 hr5 HV.out (by omega) (by omega)).mono ?_
          rintro e w' ⟨rfl, hb2⟩
          go_wp2
          go_roundw
          case rel => exact ⟨k + 1, s2, by omega, by go_num, HS, rfl, hp2, bl9⟩
          case measure => simp [intOf]; omega
        · have e : lft (msFast x) (left - l.length - s) = -1 := by simp [lft]; omega
          rw [e] at C
          have hend : lft (sumOf msFast l) left = -1 := by
            have h3 := hs.out
            simp [lft, sumOf]
            omega
          have HE := Lib.hid hend
          clear hsn hle e hend
          go_wp2_with fail
          refine (C _ hr4 hr5 HV.out (by omega) (by omega)).mono ?_
          rintro e w' ⟨rfl, hb2⟩
          go_wp2
          go_ret
          exact ⟨ret_int HE.out.symm, bl9⟩
      · have hend : lft (sumOf msFast l) left = left - l.length - s := by
          have h3 := hs.out
          rw [List.take_of_length_le (by omega)] at h3
          simp only [lft, sumOf, ← h3]
          rw [if_pos (by omega)]
          omega
        have HE := Lib.hid hend
        clear hend
        go_wp2
        go_ret
        exact ⟨ret_int HE.out.symm, hb⟩
  · have h2 : left - (l.length : Int) < 0 := by omega
    go_enter Tryz.func75, Tryz.ntmps75
    go_wp2
    go_ret
    exact ⟨by simp [lft, sumOf]; omega, Below.refl _ _⟩
theorem infoFast : (Tryz.prog.info? 41).map (fun i => (i.zero, i.size, i.bytes)) = some (some (.agg #[.int .i64 0, .int .i64 0, .int .i64 0, .int .i64 0, .slice none 0 0, .slice none 0 0]), 6, 80) := by kernel_rfl
set_option maxHeartbeats 4000000 in
set_option maxRecDepth 100000 in
theorem toFast_c (A4 A5 : Option Addr) (c4 c5 : Nat) (x : DFast) (w : World) (r4 : kFOp.Row w A4 x.ops.length x.ops) (r5 : kExit.Row w A5 x.exits.length x.exits) (hM : MFast x) : Calls Tryz.prog 15 #[.agg #[.int .i64 x.fn, .int .i64 x.entry, .int .i64 x.vals, .int .i64 x.nums, .slice A4 x.ops.length c4, .slice A5 x.exits.length c5]] w (fun en w' => ∃ (v4 v5 : Value) (F4 F5 : List Nat), en = .returned (.agg #[.int .i64 x.fn, .int .i64 x.entry, .int .i64 x.vals, .int .i64 x.nums, v4, v5]) ∧ St w [Res.own kFOp 164 v4 x.ops F4, Res.own kExit 168 v5 x.exits F5] w') := by
  go_enter Tryz.func15, Tryz.ntmps15
  go_wp2_with fail
  refine (toFOpS_c A4 c4 x.ops _ (r4.below bl9) hM.1).mono ?_
  rintro e w1 ⟨v4, F4, rfl, ho4, hnd4, hF4, hb1⟩
  obtain ⟨Av4, cv4, rfl, _, _⟩ := ho4.row
  obtain ⟨hc1, hf1⟩ := bcell hb1
  have hz1 := hb1.size
  simp at hz1
  have y10 : w.heap.size < w1.heap.size := by omega
  have y11 : w.heap.size + 1 < w1.heap.size := by omega
  have y12 : w.heap.size + 1 + 1 < w1.heap.size := by omega
  have hG4 : ∀ g ∈ F4, w.heap.size + 3 ≤ g := fun g hg => by have := hF4 g hg; simp at this; omega
  have hl4 := ho4.lt
  have hW1 : Below w.heap.size w w1 := bl9
  go_wp2_with fail
  refine (toExitS_c A5 c5 x.exits _ (r5.below bl9) hM.2).mono ?_
  rintro e w2 ⟨v5, F5, rfl, ho5, hnd5, hF5, hb2⟩
  obtain ⟨Av5, cv5, rfl, _, _⟩ := ho5.row
  obtain ⟨hc2, hf2⟩ := bcell hb2
  have hz2 := hb2.size
  simp at hz2
  have y20 : w.heap.size < w2.heap.size := by omega
  have y21 : w.heap.size + 1 < w2.heap.size := by omega
  have y22 : w.heap.size + 1 + 1 < w2.heap.size := by omega
  have hG5 : ∀ g ∈ F5, w.heap.size + 3 ≤ g := fun g hg => by have := hF5 g hg; simp at this; omega
  have hl5 := ho5.lt
  have hd5_4 : ∀ g ∈ F5, g ∉ F4 := fun g hg hm => by have h8 := hl4 g hm; have h9 := hF5 g hg; simp at h9; omega
  have hW2 : Below w.heap.size w w2 := bl9
  go_wp2
  refine bodyPost_ret (v := .agg #[.int .i64 x.fn, .int .i64 x.entry, .int .i64 x.vals, .int .i64 x.nums, .slice Av4 x.ops.length cv4, .slice Av5 x.exits.length cv5]) (by simp [results, Tryz.results15, go_sem, *]) rfl ⟨_, _, F4, F5, rfl, ?_⟩
  refine St.cons (St.cons (St.bare bl9) ?_ hnd5 (fun g hg => by have := hG5 g hg; omega) (by simp)) ?_ hnd4 (fun g hg => by have := hG4 g hg; omega) (by simp only [List.forall_mem_cons]; exact ⟨fun g hg hm => hd5_4 g hm hg, by simp⟩)
  · show kExit.Own 168 _ _ _ _
    repeat (first | (with_reducible exact ho5) | (refine Knd.Own.set_old ?_ hG5 (by dsimp only; omega) _) | (refine Knd.Own.below ?_ hb2) | (refine Knd.Own.below ?_ hb1))
  · show kFOp.Own 164 _ _ _ _
    repeat (first | (with_reducible exact ho4) | (refine Knd.Own.set_old ?_ hG4 (by dsimp only; omega) _) | (refine Knd.Own.below ?_ hb2) | (refine Knd.Own.below ?_ hb1))
theorem zFast_O (w : World) : kFast.O w zFast (Value.agg #[.int .i64 0, .int .i64 0, .int .i64 0, .int .i64 0, .slice none 0 0, .slice none 0 0]).cells.toList [] := kFast_Oi.2 ⟨.slice none 0 0, .slice none 0 0, [], [], rfl, rfl, Knd.Own.nil _ _ _, Knd.Own.nil _ _ _⟩
set_option maxHeartbeats 4000000 in
set_option maxRecDepth 100000 in
theorem toFastS_c (A : Option Addr) (c : Nat) (l : List DFast) (w : World) (hr : kFast.Row w A l.length l) (hm : l.length ≤ 1048576 ∧ ∀ y ∈ l, MFast y) : Calls Tryz.prog 79 #[.slice A l.length c] w (NewRow kFast 41 l w) := by
  obtain ⟨hm, hM⟩ := hm
  go_enter Tryz.func79, Tryz.ntmps79
  go_wp2_with (refine Knd.wp_made kFast rfl _ _ _ rfl l.length rfl rfl 41 Tryz.underlying69 (.agg #[.int .i64 0, .int .i64 0, .int .i64 0, .int .i64 0, .slice none 0 0, .slice none 0 0]) 80 infoFast rfl (by decide) (by omega) zFast zFast_O (by omega) ?_; rintro g w1 hg ho hb hz; have HG := Lib.hid hg; clear hg)
  have hg0 : w.heap.size ≤ g := Nat.le_of_eq HG.out.symm
  go_loopw [4] (fun i wr => ∃ (k : Nat) (Fs : List (List Nat)), k ≤ l.length ∧ i = .int .i64 k ∧ kFast.OwnF 41 wr (.slice (some ⟨g, 0, none⟩) l.length l.length) (l.take k ++ List.replicate (l.length - k) zFast) Fs ∧ Hid ((g :: Fs.flatten).Nodup ∧ (∀ q ∈ Fs.flatten, w.heap.size ≤ q)) ∧ Below w.heap.size w wr) (fun i _ => l.length - (intOf i).toNat)
  case atStart => exact ⟨0, List.replicate l.length [], by omega, rfl, by simpa using ho, ⟨by simp [rep_flat], by simp [rep_flat]⟩, hb⟩
  case round =>
    obtain ⟨k, Fs, hk, rfl, ho, hN, hb⟩ := hrel
    by_cases hlt : k < l.length
    · obtain ⟨x, hx⟩ := get_exT l k hlt
      obtain ⟨ad, A4y, A5y, c4y, c5y, rfl, q0, q1, q2, q3, q4, q5, hl4, hr4, hl5, hr5⟩ := kFast_at (hr.below hb) k x hx
      have hMx := hM x (List.mem_of_getElem? hx)
      have hp := part_set l zFast x k hx
      have hle : k < (l.take k ++ List.replicate (l.length - k) zFast).length := by simp; omega
      have hlen : (l.take k ++ List.replicate (l.length - k) zFast).length = l.length := by simp; omega
      have hFl : Fs.length = l.length := ho.len.trans hlen
      have HF := Lib.hid hFl
      clear hFl
      have HP := Lib.hid hp
      have HX := Lib.hid hx
      have HL := Lib.hid hlen
      clear hp hx hlen
      have C := toFast_c A4y A5y c4y c5y x wr hr4 hr5 hMx
      go_wp2_with fail
      refine C.mono ?_
      rintro e w' ⟨v4, v5, F4, F5, rfl, hS2⟩
      obtain ⟨Av4, cv4, rfl, _, _⟩ := hS2.row 0 rfl
      obtain ⟨Av5, cv5, rfl, _, _⟩ := hS2.row 1 rfl
      have hb2 := hS2.bel
      have ho2 := ho.below hb2
      obtain ⟨u0, s0⟩ := ho2.cell (k * 6) (by rw [HL.out]; show _ < l.length * 6; omega)
      have f0 := ho2.free (k * 6)
      obtain ⟨u1, s1⟩ := ho2.cell (k * 6 + 1) (by rw [HL.out]; show _ < l.length * 6; omega)
      have f1 := ho2.free (k * 6 + 1)
      obtain ⟨u2, s2⟩ := ho2.cell (k * 6 + 2) (by rw [HL.out]; show _ < l.length * 6; omega)
      have f2 := ho2.free (k * 6 + 2)
      obtain ⟨u3, s3⟩ := ho2.cell (k * 6 + 3) (by rw [HL.out]; show _ < l.length * 6; omega)
      have f3 := ho2.free (k * 6 + 3)
      obtain ⟨u4, s4⟩ := ho2.cell (k * 6 + 4) (by rw [HL.out]; show _ < l.length * 6; omega)
      have f4 := ho2.free (k * 6 + 4)
      obtain ⟨u5, s5⟩ := ho2.cell (k * 6 + 5) (by rw [HL.out]; show _ < l.length * 6; omega)
      have f5 := ho2.free (k * 6 + 5)
      have HS2 := Lib.hid hS2
      clear hS2
      go_wp2
      go_roundw
      case rel =>
        have hlt2 : ∀ q ∈ g :: Fs.flatten, q < wr.heap.size := fun q hq => ho.lt q (by simpa [Value.ownBlock] using hq)
        have hnew : ∀ q ∈ (F4 ++ F5), wr.heap.size ≤ q := fun q hq => by
          have h8 := HS2.out.old
          simp only [List.forall_mem_cons] at h8
          (try simp only [List.mem_append] at hq)
          rcases hq with hq | hq
          · exact h8.1 q hq
          · exact h8.2.1 q hq
        have hnd : ((F4 ++ F5)).Nodup := by have h8 := HS2.out.dis; simpa [Res.own] using h8
        have hd : ∀ q ∈ (F4 ++ F5), q ∉ g :: Fs.flatten := fun q hq hm => by have := hlt2 q hm; have := hnew q hq; omega
        have h1 := ho2.put k hle [.int .i64 x.fn, .int .i64 x.entry, .int .i64 x.vals, .int .i64 x.nums, .slice Av4 x.ops.length cv4, .slice Av5 x.exits.length cv5] x (F4 ++ F5) (kFast_Oi.2 ⟨_, _, F4, F5, rfl, rfl, HS2.out.get 0 rfl, HS2.out.get 1 rfl⟩) (fun h => hd g h (by simp)) (List.nodup_cons.1 hN.out.1).1
        rw [HP.out] at h1
        refine ⟨k + 1, Fs.set k (F4 ++ F5), by omega, by go_num, h1, ⟨nodup_put (by rw [HF.out]; exact hlt) hN.out.1 hnd hd, fun q hq => ?_⟩, ?_⟩
        · rcases mem_put (by rw [HF.out]; exact hlt) hq with hq | hq
          · have := hnew q hq
            have := hb.size
            omega
          · exact hN.out.2 q hq
        · exact bl9
      case measure => simp [intOf]; omega
    · obtain rfl : k = l.length := by omega
      go_wp2
      go_ret
      have h1 := ho.own
      rw [List.take_length, Nat.sub_self, List.replicate_zero, List.append_nil] at h1
      exact ⟨_, _, rfl, h1, hN.out.1, fun q hq => by
        rcases List.mem_cons.1 hq with rfl | hq
        · exact hg0
        · exact hN.out.2 q hq, hb⟩
set_option maxHeartbeats 4000000 in
set_option maxRecDepth 100000 in
theorem eqFast_c (A4 A5 : Option Addr) (c4 c5 : Nat) (A4z A5z : Option Addr) (c4z c5z : Nat) (x : DFast) (w : World) (r4 : kFOp.Row w A4 x.ops.length x.ops) (r5 : kExit.Row w A5 x.exits.length x.exits) (r4z : kFOp.Row w A4z x.ops.length x.ops) (r5z : kExit.Row w A5z x.exits.length x.exits) : Calls Tryz.prog 19 #[.agg #[.int .i64 x.fn, .int .i64 x.entry, .int .i64 x.vals, .int .i64 x.nums, .slice A4 x.ops.length c4, .slice A5 x.exits.length c5], .agg #[.int .i64 x.fn, .int .i64 x.entry, .int .i64 x.vals, .int .i64 x.nums, .slice A4z x.ops.length c4z, .slice A5z x.exits.length c5z]] w fun e w' => e = .returned (.bool true) ∧ Below w.heap.size w w' := by
  have hS := ((St.start w).made (.cells #[.int .i64 x.fn, .int .i64 x.entry, .int .i64 x.vals, .int .i64 x.nums, .slice A4 x.ops.length c4, .slice A5 x.exits.length c5] 41 (0, 0))).madeAt (.cells #[.int .i64 x.fn, .int .i64 x.entry, .int .i64 x.vals, .int .i64 x.nums, .slice A4z x.ops.length c4z, .slice A5z x.exits.length c5z] 41 (0, 0)) (w.heap.size + 1) (by simp)
  go_enter Tryz.func19, Tryz.ntmps19
  go_wp2_with fail
  refine (eqFOpS_c A4 A4z c4 c4z x.ops _ (r4.below hS.bel) (r4z.below hS.bel)).mono ?_
  rintro e w1 ⟨rfl, hb⟩
  replace hS := hS.step hb
  have xb := hS.cell 0 rfl
  have xa := hS.cell 1 rfl
  have yb := hS.blt 0 rfl
  have ya := hS.blt 1 rfl
  clear hb
  go_wp2_with fail
  refine (eqExitS_c A5 A5z c5 c5z x.exits _ (r5.below hS.bel) (r5z.below hS.bel)).mono ?_
  rintro e w2 ⟨rfl, hb⟩
  replace hS := hS.step hb
  have xb := hS.cell 0 rfl
  have xa := hS.cell 1 rfl
  have yb := hS.blt 0 rfl
  have ya := hS.blt 1 rfl
  clear hb
  go_wp2
  go_ret
  exact ⟨rfl, hS.bel⟩
set_option maxHeartbeats 4000000 in
set_option maxRecDepth 100000 in
theorem eqFastS_c (A B : Option Addr) (c c' : Nat) (l : List DFast) (w : World) (hr : kFast.Row w A l.length l) (hr' : kFast.Row w B l.length l) : Calls Tryz.prog 84 #[.slice A l.length c, .slice B l.length c'] w fun e w' => e = .returned (.bool true) ∧ Below w.heap.size w w' := by
  have hm := hr.2.1
  go_enter Tryz.func84, Tryz.ntmps84
  go_wp2
  go_loopw [5] (fun i wr => ∃ k : Nat, k ≤ l.length ∧ i = .int .i64 k ∧ Below w.heap.size w wr) (fun i _ => l.length - (intOf i).toNat)
  case atStart => exact ⟨0, by omega, rfl, Below.refl _ _⟩
  case round =>
    obtain ⟨k, hk, rfl, hb⟩ := hrel
    by_cases hlt : k < l.length
    · obtain ⟨x, hx⟩ := get_exE l k hlt
      obtain ⟨ady, A4y, A5y, c4y, c5y, rfl, q0, q1, q2, q3, q4, q5, hl4y, hr4y, hl5y, hr5y⟩ := kFast_at (hr.below hb) k x hx
      obtain ⟨adz, A4z, A5z, c4z, c5z, rfl, p0, p1, p2, p3, p4, p5, hl4z, hr4z, hl5z, hr5z⟩ := kFast_at (hr'.below hb) k x hx
      clear hx
      go_wp2
      go_region_held3 (fun w' => w'.cell? (ady.add (k * 6)) = some (.int .i64 x.fn) ∧ w'.cell? ⟨(ady.add (k * 6)).block, (ady.add (k * 6)).off + 1, none⟩ = some (.int .i64 x.entry) ∧ w'.cell? ⟨(ady.add (k * 6)).block, (ady.add (k * 6)).off + 2, none⟩ = some (.int .i64 x.vals) ∧ w'.cell? ⟨(ady.add (k * 6)).block, (ady.add (k * 6)).off + 3, none⟩ = some (.int .i64 x.nums) ∧ w'.cell? ⟨(ady.add (k * 6)).block, (ady.add (k * 6)).off + 4, none⟩ = some (.slice A4y x.ops.length c4y) ∧ w'.cell? ⟨(ady.add (k * 6)).block, (ady.add (k * 6)).off + 5, none⟩ = some (.slice A5y x.exits.length c5y) ∧ w'.cell? (adz.add (k * 6)) = some (.int .i64 x.fn) ∧ w'.cell? ⟨(adz.add (k * 6)).block, (adz.add (k * 6)).off + 1, none⟩ = some (.int .i64 x.entry) ∧ w'.cell? ⟨(adz.add (k * 6)).block, (adz.add (k * 6)).off + 2, none⟩ = some (.int .i64 x.vals) ∧ w'.cell? ⟨(adz.add (k * 6)).block, (adz.add (k * 6)).off + 3, none⟩ = some (.int .i64 x.nums) ∧ w'.cell? ⟨(adz.add (k * 6)).block, (adz.add (k * 6)).off + 4, none⟩ = some (.slice A4z x.ops.length c4z) ∧ w'.cell? ⟨(adz.add (k * 6)).block, (adz.add (k * 6)).off + 5, none⟩ = some (.slice A5z x.exits.length c5z) ∧ Below wr.heap.size wr w') ((refine ⟨?_, ?_, ?_, ?_, ?_, ?_, ?_, ?_, ?_, ?_, ?_, ?_, ?_⟩ <;> first | assumption | (go_keep; done) | exact bl9)) (first | (go_at_call 19; refine (eqFast_c _ _ _ _ _ _ _ _ _ _ (hr4y.below bl9) (hr5y.below bl9) (hr4z.below bl9) (hr5z.below bl9)).mono ?_; rintro e w' ⟨rfl, hb2⟩; have q0 := kept hb2 q0; have q1 := kept hb2 q1; have q2 := kept hb2 q2; have q3 := kept hb2 q3; have q4 := kept hb2 q4; have q5 := kept hb2 q5; have p0 := kept hb2 p0; have p1 := kept hb2 p1; have p2 := kept hb2 p2; have p3 := kept hb2 p3; have p4 := kept hb2 p4; have p5 := kept hb2 p5; have hW2 : Below wr.heap.size wr w' := bl9))
      go_wp2
      go_roundw
      case rel => exact ⟨k + 1, by omega, by go_num, bl9⟩
      case measure => simp [intOf]; omega
    · go_wp2
      go_ret
      exact ⟨rfl, hb⟩
end Go.Proofs.YthinhlcfpaaldaaGreat.Dat
