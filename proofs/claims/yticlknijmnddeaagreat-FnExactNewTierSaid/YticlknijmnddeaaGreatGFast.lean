/- The laws' own functions over Fast. Written by a program (recgen.py). -/
import Derived.Test.YticlknijmnddeaaGreatK4
import Derived.Test.YticlknijmnddeaaGreatGExit
import Derived.Test.YticlknijmnddeaaGreatGFOp
namespace Go.Proofs.YticlknijmnddeaaGreat.Dat
open Go Go.RowKit Go.Proofs.YticlknijmnddeaaGreat.Mem
set_option linter.unusedVariables false
set_option linter.unusedSimpArgs false
structure DFast where
  fn : Int
  entry : Int
  vals : Int
  nums : Int
  ops : List DFOp
  exits : List DExit
def zFast : DFast := ⟨0, 0, 0, 0, [], []⟩
def kFast : Knd DFast := Knd.iso (Knd.pair (Knd.int .i64) (Knd.pair (Knd.int .i64) (Knd.pair (Knd.int .i64) (Knd.pair (Knd.int .i64) (Knd.pair (Knd.slice 269 kFOp) (Knd.slice 275 kExit)))))) (fun x => (x.fn, x.entry, x.vals, x.nums, x.ops, x.exits))
/-- What is handed in meets this. -/
def VFast (x : DFast) : Prop := (Lit.int .i64 x.fn).wf = true ∧ (Lit.int .i64 x.entry).wf = true ∧ (Lit.int .i64 x.vals).wf = true ∧ (Lit.int .i64 x.nums).wf = true ∧ (x.ops.length ≤ maxLen ∧ ∀ y ∈ x.ops, VFOp y) ∧ (x.exits.length ≤ maxLen ∧ ∀ y ∈ x.exits, VExit y)
theorem kFast_K {w : World} {x : DFast} {cs : List Value} : kFast.K w x cs ↔ ∃ (A4 A5 : Option Addr) (c4 c5 : Nat), cs = [.int .i64 x.fn, .int .i64 x.entry, .int .i64 x.vals, .int .i64 x.nums, .slice A4 x.ops.length c4, .slice A5 x.exits.length c5] ∧ x.ops.length ≤ c4 ∧ kFOp.Row w A4 x.ops.length x.ops ∧ x.exits.length ≤ c5 ∧ kExit.Row w A5 x.exits.length x.exits := by
  constructor
  · rintro ⟨_, _, rfl, rfl, ⟨_, _, rfl, rfl, ⟨_, _, rfl, rfl, ⟨_, _, rfl, rfl, ⟨_, _, rfl, ⟨A_ops, c_ops, rfl, hl_ops, hr_ops⟩, ⟨A_exits, c_exits, rfl, hl_exits, hr_exits⟩⟩⟩⟩⟩⟩
    exact ⟨A_ops, A_exits, c_ops, c_exits, rfl, hl_ops, hr_ops, hl_exits, hr_exits⟩
  · rintro ⟨A4, A5, c4, c5, rfl, h4, r4, h5, r5⟩
    exact ⟨[.int .i64 x.fn], [.int .i64 x.entry, .int .i64 x.vals, .int .i64 x.nums, .slice A4 x.ops.length c4, .slice A5 x.exits.length c5], rfl, rfl, ⟨[.int .i64 x.entry], [.int .i64 x.vals, .int .i64 x.nums, .slice A4 x.ops.length c4, .slice A5 x.exits.length c5], rfl, rfl, ⟨[.int .i64 x.vals], [.int .i64 x.nums, .slice A4 x.ops.length c4, .slice A5 x.exits.length c5], rfl, rfl, ⟨[.int .i64 x.nums], [.slice A4 x.ops.length c4, .slice A5 x.exits.length c5], rfl, rfl, ⟨[.slice A4 x.ops.length c4], [.slice A5 x.exits.length c5], rfl, ⟨A4, c4, rfl, h4, r4⟩, ⟨A5, c5, rfl, h5, r5⟩⟩⟩⟩⟩⟩
theorem kFast_at {w : World} {A : Option Addr} {m : Nat} {xs : List DFast} (h : kFast.Row w A m xs) (i : Nat) (x : DFast) (hx : xs[i]? = some x) : ∃ (ad : Addr) (A4 A5 : Option Addr) (c4 c5 : Nat), A = some ad ∧ w.cell? (ad.add (i * 6)) = some (.int .i64 x.fn) ∧ w.cell? ⟨(ad.add (i * 6)).block, (ad.add (i * 6)).off + 1, none⟩ = some (.int .i64 x.entry) ∧ w.cell? ⟨(ad.add (i * 6)).block, (ad.add (i * 6)).off + 2, none⟩ = some (.int .i64 x.vals) ∧ w.cell? ⟨(ad.add (i * 6)).block, (ad.add (i * 6)).off + 3, none⟩ = some (.int .i64 x.nums) ∧ w.cell? ⟨(ad.add (i * 6)).block, (ad.add (i * 6)).off + 4, none⟩ = some (.slice A4 x.ops.length c4) ∧ w.cell? ⟨(ad.add (i * 6)).block, (ad.add (i * 6)).off + 5, none⟩ = some (.slice A5 x.exits.length c5) ∧ x.ops.length ≤ c4 ∧ kFOp.Row w A4 x.ops.length x.ops ∧ x.exits.length ≤ c5 ∧ kExit.Row w A5 x.exits.length x.exits := by
  obtain ⟨ad, c, e, hK, hc0⟩ := h.get i x hx
  have hc : ∀ j u, c[j]? = some u → w.cell? (ad.add (i * 6 + j)) = some u := hc0
  obtain ⟨A4, A5, c4, c5, rfl, h4, r4, h5, r5⟩ := kFast_K.1 hK
  exact ⟨ad, A4, A5, c4, c5, e, hc 0 _ rfl, (by rw [← add_field _ _ 1 (by omega)]; exact hc 1 _ rfl), (by rw [← add_field _ _ 2 (by omega)]; exact hc 2 _ rfl), (by rw [← add_field _ _ 3 (by omega)]; exact hc 3 _ rfl), (by rw [← add_field _ _ 4 (by omega)]; exact hc 4 _ rfl), (by rw [← add_field _ _ 5 (by omega)]; exact hc 5 _ rfl), h4, r4, h5, r5⟩
def ctFast (x : DFast) : Nat := 4 + ctL ctFOp x.ops + ctL ctExit x.exits
def mkFast (k : Int) (x : DFast) : DFast := { fn := k, entry := k + 1, vals := k + 1 + 1, nums := k + 1 + 1 + 1, ops := mkL mkFOp ctFOp (k + 1 + 1 + 1 + 1) x.ops, exits := mkL mkExit ctExit (k + 1 + 1 + 1 + 1 + ctL ctFOp x.ops) x.exits }
theorem kFast_Oi {w : World} {x : DFast} {cs : List Value} {F : List Nat} : kFast.O w x cs F ↔ ∃ (v4 v5 : Value) (F4 F5 : List Nat), cs = [.int .i64 x.fn, .int .i64 x.entry, .int .i64 x.vals, .int .i64 x.nums, v4, v5] ∧ F = F4 ++ F5 ∧ kFOp.Own 269 w v4 x.ops F4 ∧ kExit.Own 275 w v5 x.exits F5 := by
  constructor
  · rintro ⟨_, _, _, _, rfl, rfl, ⟨rfl, rfl⟩, ⟨_, _, _, _, rfl, rfl, ⟨rfl, rfl⟩, ⟨_, _, _, _, rfl, rfl, ⟨rfl, rfl⟩, ⟨_, _, _, _, rfl, rfl, ⟨rfl, rfl⟩, ⟨_, _, _, _, rfl, rfl, ⟨v4, rfl, o4⟩, ⟨v5, rfl, o5⟩⟩⟩⟩⟩⟩
    exact ⟨v4, v5, _, _, rfl, by simp, o4, o5⟩
  · rintro ⟨v4, v5, F4, F5, rfl, rfl, o4, o5⟩
    have h : kFast.O w x [.int .i64 x.fn, .int .i64 x.entry, .int .i64 x.vals, .int .i64 x.nums, v4, v5] (([] ++ ([] ++ ([] ++ ([] ++ (F4 ++ F5)))))) := ⟨[.int .i64 x.fn], [.int .i64 x.entry, .int .i64 x.vals, .int .i64 x.nums, v4, v5], [], ([] ++ ([] ++ ([] ++ (F4 ++ F5)))), rfl, by simp, ⟨rfl, rfl⟩, ⟨[.int .i64 x.entry], [.int .i64 x.vals, .int .i64 x.nums, v4, v5], [], ([] ++ ([] ++ (F4 ++ F5))), rfl, by simp, ⟨rfl, rfl⟩, ⟨[.int .i64 x.vals], [.int .i64 x.nums, v4, v5], [], ([] ++ (F4 ++ F5)), rfl, by simp, ⟨rfl, rfl⟩, ⟨[.int .i64 x.nums], [v4, v5], [], (F4 ++ F5), rfl, by simp, ⟨rfl, rfl⟩, ⟨[v4], [v5], F4, F5, rfl, by simp, ⟨v4, rfl, o4⟩, ⟨v5, rfl, o5⟩⟩⟩⟩⟩⟩
    simpa using h
def msFast (x : DFast) : Nat := sumOf msFOp x.ops + sumOf msExit x.exits
/-- What a small measure gives. -/
def MFast (x : DFast) : Prop := (x.ops.length ≤ 1048576 ∧ ∀ y ∈ x.ops, MFOp y) ∧ (x.exits.length ≤ 1048576 ∧ ∀ y ∈ x.exits, MExit y)
theorem MFast_of {x : DFast} (h : msFast x ≤ 1048576) : MFast x := by
  unfold msFast at h
  try simp only [sumOf] at h
  unfold MFast
  exact ⟨⟨by omega, fun y hy => by have h9 := mem_sum msFOp _ y hy; exact MFOp_of (by omega)⟩, ⟨by omega, fun y hy => by have h9 := mem_sum msExit _ y hy; exact MExit_of (by omega)⟩⟩
theorem infoFast : (Tryz.prog.info? 229).map (fun i => (i.zero, i.size, i.bytes)) = some (some (.agg #[.int .i64 0, .int .i64 0, .int .i64 0, .int .i64 0, .slice none 0 0, .slice none 0 0]), 6, 80) := by kernel_rfl
theorem zFast_O (w : World) : kFast.O w zFast (Value.agg #[.int .i64 0, .int .i64 0, .int .i64 0, .int .i64 0, .slice none 0 0, .slice none 0 0]).cells.toList [] := kFast_Oi.2 ⟨.slice none 0 0, .slice none 0 0, [], [], rfl, rfl, Knd.Own.nil _ _ _, Knd.Own.nil _ _ _⟩
set_option maxHeartbeats 4000000 in
set_option maxRecDepth 100000 in
theorem eqFast_c (A4 A5 : Option Addr) (c4 c5 : Nat) (A4z A5z : Option Addr) (c4z c5z : Nat) (x : DFast) (w : World) (r4 : kFOp.Row w A4 x.ops.length x.ops) (r5 : kExit.Row w A5 x.exits.length x.exits) (r4z : kFOp.Row w A4z x.ops.length x.ops) (r5z : kExit.Row w A5z x.exits.length x.exits) : Calls Tryz.prog 188 #[.agg #[.int .i64 x.fn, .int .i64 x.entry, .int .i64 x.vals, .int .i64 x.nums, .slice A4 x.ops.length c4, .slice A5 x.exits.length c5], .agg #[.int .i64 x.fn, .int .i64 x.entry, .int .i64 x.vals, .int .i64 x.nums, .slice A4z x.ops.length c4z, .slice A5z x.exits.length c5z]] w fun e w' => e = .returned (.bool true) ∧ Below w.heap.size w w' := by
  have hS := ((St.start w).made (.cells #[.int .i64 x.fn, .int .i64 x.entry, .int .i64 x.vals, .int .i64 x.nums, .slice A4 x.ops.length c4, .slice A5 x.exits.length c5] 229 (0, 0))).madeAt (.cells #[.int .i64 x.fn, .int .i64 x.entry, .int .i64 x.vals, .int .i64 x.nums, .slice A4z x.ops.length c4z, .slice A5z x.exits.length c5z] 229 (0, 0)) (w.heap.size + 1) (by simp)
  go_enter Tryz.func188, Tryz.ntmps188
  go_wp2_with fail
  refine (eqFOpS_c A4 A4z c4 c4z x.ops _ (r4.below hS.bel) (r4z.below hS.bel)).mono ?_
  rintro e w1 ⟨rfl, hb⟩
  replace hS := hS.step hb
  have xb := hS.cell 0 rfl
  have xa := hS.cell 1 rfl
  have yb := hS.blt 0 rfl
  have ya := hS.blt 1 rfl
  clear hb
  go_wp2_with fail
  refine (eqExitS_c A5 A5z c5 c5z x.exits _ (r5.below hS.bel) (r5z.below hS.bel)).mono ?_
  rintro e w2 ⟨rfl, hb⟩
  replace hS := hS.step hb
  have xb := hS.cell 0 rfl
  have xa := hS.cell 1 rfl
  have yb := hS.blt 0 rfl
  have ya := hS.blt 1 rfl
  clear hb
  go_wp2
  go_ret
  exact ⟨rfl, hS.bel⟩
set_option maxHeartbeats 4000000 in
set_option maxRecDepth 100000 in
theorem eqFastS_c (A B : Option Addr) (c c' : Nat) (l : List DFast) (w : World) (hr : kFast.Row w A l.length l) (hr' : kFast.Row w B l.length l) : Calls Tryz.prog 117 #[.slice A l.length c, .slice B l.length c'] w fun e w' => e = .returned (.bool true) ∧ Below w.heap.size w w' := by
  have hm := hr.2.1
  go_enter Tryz.func117, Tryz.ntmps117
  go_wp2
  go_loopw [5] (fun i wr => ∃ k : Nat, k ≤ l.length ∧ i = .int .i64 k ∧ Below w.heap.size w wr) (fun i _ => l.length - (intOf i).toNat)
  case atStart => exact ⟨0, by omega, rfl, Below.refl _ _⟩
  case round =>
    obtain ⟨k, hk, rfl, hb⟩ := hrel
    by_cases hlt : k < l.length
    · obtain ⟨x, hx⟩ := get_exE l k hlt
      obtain ⟨ady, A4y, A5y, c4y, c5y, rfl, q0, q1, q2, q3, q4, q5, hl4y, hr4y, hl5y, hr5y⟩ := kFast_at (hr.below hb) k x hx
      obtain ⟨adz, A4z, A5z, c4z, c5z, rfl, p0, p1, p2, p3, p4, p5, hl4z, hr4z, hl5z, hr5z⟩ := kFast_at (hr'.below hb) k x hx
      clear hx
      go_wp2
      go_region_held3 (fun w' => w'.cell? (ady.add (k * 6)) = some (.int .i64 x.fn) ∧ w'.cell? ⟨(ady.add (k * 6)).block, (ady.add (k * 6)).off + 1, none⟩ = some (.int .i64 x.entry) ∧ w'.cell? ⟨(ady.add (k * 6)).block, (ady.add (k * 6)).off + 2, none⟩ = some (.int .i64 x.vals) ∧ w'.cell? ⟨(ady.add (k * 6)).block, (ady.add (k * 6)).off + 3, none⟩ = some (.int .i64 x.nums) ∧ w'.cell? ⟨(ady.add (k * 6)).block, (ady.add (k * 6)).off + 4, none⟩ = some (.slice A4y x.ops.length c4y) ∧ w'.cell? ⟨(ady.add (k * 6)).block, (ady.add (k * 6)).off + 5, none⟩ = some (.slice A5y x.exits.length c5y) ∧ w'.cell? (adz.add (k * 6)) = some (.int .i64 x.fn) ∧ w'.cell? ⟨(adz.add (k * 6)).block, (adz.add (k * 6)).off + 1, none⟩ = some (.int .i64 x.entry) ∧ w'.cell? ⟨(adz.add (k * 6)).block, (adz.add (k * 6)).off + 2, none⟩ = some (.int .i64 x.vals) ∧ w'.cell? ⟨(adz.add (k * 6)).block, (adz.add (k * 6)).off + 3, none⟩ = some (.int .i64 x.nums) ∧ w'.cell? ⟨(adz.add (k * 6)).block, (adz.add (k * 6)).off + 4, none⟩ = some (.slice A4z x.ops.length c4z) ∧ w'.cell? ⟨(adz.add (k * 6)).block, (adz.add (k * 6)).off + 5, none⟩ = some (.slice A5z x.exits.length c5z) ∧ Below wr.heap.size wr w') ((refine ⟨?_, ?_, ?_, ?_, ?_, ?_, ?_, ?_, ?_, ?_, ?_, ?_, ?_⟩ <;> first | assumption | (go_keep; done) | exact (by repeat (first | with_reducible exact Below.refl _ _ | with_reducible assumption | (with_reducible refine bl_set ?_ (by dsimp only; omega) _) | with_reducible refine bl_alloc ?_ _ | with_reducible refine bl_drewN ?_ _ | with_reducible refine bl_drew ?_ | with_reducible refine bl_step ?_ (by with_reducible assumption) | exact Below.refl _ _ | assumption | (refine bl_set ?_ (by dsimp only; omega) _) | refine bl_alloc ?_ _ | refine bl_drewN ?_ _ | refine bl_drew ?_ | refine bl_step ?_ (by assumption))))) (first | (go_at_call 188; refine (eqFast_c _ _ _ _ _ _ _ _ _ _ (hr4y.below (by repeat (first | with_reducible exact Below.refl _ _ | with_reducible assumption | (with_reducible refine bl_set ?_ (by dsimp only; omega) _) | with_reducible refine bl_alloc ?_ _ | with_reducible refine bl_drewN ?_ _ | with_reducible refine bl_drew ?_ | with_reducible refine bl_step ?_ (by with_reducible assumption) | exact Below.refl _ _ | assumption | (refine bl_set ?_ (by dsimp only; omega) _) | refine bl_alloc ?_ _ | refine bl_drewN ?_ _ | refine bl_drew ?_ | refine bl_step ?_ (by assumption)))) (hr5y.below (by repeat (first | with_reducible exact Below.refl _ _ | with_reducible assumption | (with_reducible refine bl_set ?_ (by dsimp only; omega) _) | with_reducible refine bl_alloc ?_ _ | with_reducible refine bl_drewN ?_ _ | with_reducible refine bl_drew ?_ | with_reducible refine bl_step ?_ (by with_reducible assumption) | exact Below.refl _ _ | assumption | (refine bl_set ?_ (by dsimp only; omega) _) | refine bl_alloc ?_ _ | refine bl_drewN ?_ _ | refine bl_drew ?_ | refine bl_step ?_ (by assumption)))) (hr4z.below (by repeat (first | with_reducible exact Below.refl _ _ | with_reducible assumption | (with_reducible refine bl_set ?_ (by dsimp only; omega) _) | with_reducible refine bl_alloc ?_ _ | with_reducible refine bl_drewN ?_ _ | with_reducible refine bl_drew ?_ | with_reducible refine bl_step ?_ (by with_reducible assumption) | exact Below.refl _ _ | assumption | (refine bl_set ?_ (by dsimp only; omega) _) | refine bl_alloc ?_ _ | refine bl_drewN ?_ _ | refine bl_drew ?_ | refine bl_step ?_ (by assumption)))) (hr5z.below (by repeat (first | with_reducible exact Below.refl _ _ | with_reducible assumption | (with_reducible refine bl_set ?_ (by dsimp only; omega) _) | with_reducible refine bl_alloc ?_ _ | with_reducible refine bl_drewN ?_ _ | with_reducible refine bl_drew ?_ | with_reducible refine bl_step ?_ (by with_reducible assumption) | exact Below.refl _ _ | assumption | (refine bl_set ?_ (by dsimp only; omega) _) | refine bl_alloc ?_ _ | refine bl_drewN ?_ _ | refine bl_drew ?_ | refine bl_step ?_ (by assumption))))).mono ?_; rintro e w' ⟨rfl, hb2⟩; have q0 := kept hb2 q0; have q1 := kept hb2 q1; have q2 := kept hb2 q2; have q3 := kept hb2 q3; have q4 := kept hb2 q4; have q5 := kept hb2 q5; have p0 := kept hb2 p0; have p1 := kept hb2 p1; have p2 := kept hb2 p2; have p3 := kept hb2 p3; have p4 := kept hb2 p4; have p5 := kept hb2 p5; have hW2 : Below wr.heap.size wr w' := (by repeat (first | with_reducible exact Below.refl _ _ | with_reducible assumption | (with_reducible refine bl_set ?_ (by dsimp only; omega) _) | with_reducible refine bl_alloc ?_ _ | with_reducible refine bl_drewN ?_ _ | with_reducible refine bl_drew ?_ | with_reducible refine bl_step ?_ (by with_reducible assumption) | exact Below.refl _ _ | assumption | (refine bl_set ?_ (by dsimp only; omega) _) | refine bl_alloc ?_ _ | refine bl_drewN ?_ _ | refine bl_drew ?_ | refine bl_step ?_ (by assumption)))))
      go_wp2
      go_roundw
      case rel => exact ⟨k + 1, by omega, by go_num, (by repeat (first | with_reducible exact Below.refl _ _ | with_reducible assumption | (with_reducible refine bl_set ?_ (by dsimp only; omega) _) | with_reducible refine bl_alloc ?_ _ | with_reducible refine bl_drewN ?_ _ | with_reducible refine bl_drew ?_ | with_reducible refine bl_step ?_ (by with_reducible assumption) | exact Below.refl _ _ | assumption | (refine bl_set ?_ (by dsimp only; omega) _) | refine bl_alloc ?_ _ | refine bl_drewN ?_ _ | refine bl_drew ?_ | refine bl_step ?_ (by assumption)))⟩
      case measure => simp [intOf]; omega
    · go_wp2
      go_ret
      exact ⟨rfl, hb⟩
theorem ctOneFast (x : DFast) : ctFast x ≤ 10 * (msFast x + 1) := by
  have h4 := ctLeFOp x.ops
  have h5 := ctLeExit x.exits
  unfold ctFast msFast
  try simp only [sumOf] at *
  omega
theorem ctLeFast (l : List DFast) : ctL ctFast l ≤ 10 * sumOf msFast l := ctL_le2 10 ctOneFast l
set_option maxHeartbeats 4000000 in
set_option maxRecDepth 100000 in
theorem markFastS_c (v : Value) (l : List DFast) (k : Int) (F : List Nat) (w : World) (h : kFast.Own 229 w v l F) (hnd : F.Nodup) (h0 : 0 ≤ k) (h1 : k + ctL ctFast l ≤ 1152921504606846976) (hm : l.length ≤ 1048576 ∧ ∀ y ∈ l, MFast y) : Calls Tryz.prog 120 #[v, .int .i64 k] w fun e w' => e = .returned (.int .i64 (k + ctL ctFast l)) ∧ kFast.Own 229 w' v (mkL mkFast ctFast k l) F ∧ But F w w' := by
  have hlm : l.length ≤ 1048576 := hm.1
  by_cases hn : 0 < l.length
  rotate_left
  · have e : l = [] := List.eq_nil_of_length_eq_zero (by omega)
    subst e
    obtain ⟨A, c, rfl, _, _⟩ := h.row
    go_enter Tryz.func120, Tryz.ntmps120
    go_wp2
    go_loopw [1, 5] (fun u i wr => u = .int .i64 k ∧ i = .int .i64 0 ∧ w = wr) (fun _ i _ => 0)
    case atStart => exact ⟨rfl, rfl, rfl⟩
    case round =>
      obtain ⟨rfl, rfl, rfl⟩ := hrel
      go_wp2
      go_ret
      exact ⟨by simp [ctL], h, But.refl _ _⟩
  obtain ⟨g, c, Fs, inner, rfl, hFe, hA0⟩ := h.toAt hnd hn
  subst hFe
  clear h hnd
  go_enter Tryz.func120, Tryz.ntmps120
  go_wp2
  go_loopw [1, 5] (fun u i wr => ∃ (j : Nat) (inner : List Value), j ≤ l.length ∧ u = .int .i64 (k + ctL ctFast (l.take j)) ∧ i = .int .i64 j ∧ kFast.At 229 wr g l.length c (upto mkFast ctFast k l j) Fs inner ∧ But (g :: Fs.flatten) w wr) (fun _ i _ => l.length - (intOf i).toNat)
  case atStart => exact ⟨0, inner, by omega, by simp [ctL], rfl, by rw [upto_0]; exact hA0, But.refl _ _⟩
  case round =>
    clear hA0
    obtain ⟨j, inner, hj, rfl, rfl, hA, hB⟩ := hrel
    by_cases hlt : j < l.length
    rotate_left
    · obtain rfl : j = l.length := by omega
      rw [upto_all] at hA
      rw [List.take_length]
      go_wp2
      go_ret
      exact ⟨rfl, hA.own, hB⟩
    obtain ⟨x, hx⟩ := get_exU l j hlt
    have hset := Lib.hid (upto_set mkFast ctFast k l j x hx)
    have hct := Lib.hid (ctL_snoc ctFast l j x hx)
    have hle := ctL_mem ctFast l j x hx
    have hMx := hm.2 x (List.mem_of_getElem? hx)
    have hul : j < (upto mkFast ctFast k l j).length := by rw [upto_len]; exact hlt
    obtain ⟨Fj, hFj, hO, _⟩ := hA.elem j x (upto_get mkFast ctFast k l j x hx)
    obtain ⟨v4, v5, G4, G5, hseg, hFn, o4, o5⟩ := kFast_Oi.1 hO
    have hFn := hFn.symm
    subst hFn
    have hGl : ∀ q ∈ (G4 ++ G5), q ∈ Fs.flatten := fun q hq => List.mem_flatten.2 ⟨_, List.mem_of_getElem? hFj, hq⟩
    have hne : ∀ q ∈ (G4 ++ G5), q ≠ g := fun q hq => hA.gne q (hGl q hq)
    have hnj : ((G4 ++ G5)).Nodup := (List.pairwise_flatten.1 (List.nodup_cons.1 hA.nd).2).1 _ (List.mem_of_getElem? hFj)
    obtain ⟨hn4, hn5, hdj⟩ := List.nodup_append.1 hnj
    obtain ⟨K, hK⟩ : ∃ K, k + (ctL ctFast (l.take j) : Int) = K := ⟨_, rfl⟩
    have hK0 : 0 ≤ K := by omega
    have hK1 : K + ctFast x ≤ 1152921504606846976 := by omega
    rw [hK]
    have HK := Lib.hid hK
    unfold ctFast at hK1
    have HUL := Lib.hid hul
    have HFJ := Lib.hid hFj
    clear hK hle hO hx
    have c0 : wr.cell? ⟨g, j * 6, none⟩ = some (.int .i64 (x.fn)) := hA.cellj j 0 HUL.out hseg rfl
    have f0 : wr.frozen? ⟨g, j * 6, none⟩ = false := hA.free _
    have c1 : wr.cell? ⟨g, j * 6 + 1, none⟩ = some (.int .i64 (x.entry)) := hA.cellj j 1 HUL.out hseg rfl
    have f1 : wr.frozen? ⟨g, j * 6 + 1, none⟩ = false := hA.free _
    have c2 : wr.cell? ⟨g, j * 6 + 2, none⟩ = some (.int .i64 (x.vals)) := hA.cellj j 2 HUL.out hseg rfl
    have f2 : wr.frozen? ⟨g, j * 6 + 2, none⟩ = false := hA.free _
    have c3 : wr.cell? ⟨g, j * 6 + 3, none⟩ = some (.int .i64 (x.nums)) := hA.cellj j 3 HUL.out hseg rfl
    have f3 : wr.frozen? ⟨g, j * 6 + 3, none⟩ = false := hA.free _
    have hP1 := hA.put j 0 HUL.out (by decide) (.int .i64 (K)) ({ fn := K, entry := x.entry, vals := x.vals, nums := x.nums, ops := x.ops, exits := x.exits } : DFast) (G4 ++ G5) HFJ.out (by rw [hseg]; exact (kFast_Oi.2 ⟨v4, v5, G4, G5, rfl, rfl, o4, o5⟩))
    have hseg1 := (Knd.At.seg_set_same (d := kFast) _ j 0 (.int .i64 (K)) (by decide)).trans (congrArg (fun z => z.set 0 (.int .i64 (K))) hseg)
    have o4_1 : kFOp.Own 269 (wr.setCell ⟨g, j * 6, none⟩ (.int .i64 (K))) v4 x.ops G4 := o4.frame (fun q hq => Below.heap_setCell _ _ _ q (hne q (by simp [hq])))
    have o5_1 : kExit.Own 275 (wr.setCell ⟨g, j * 6, none⟩ (.int .i64 (K))) v5 x.exits G5 := o5.frame (fun q hq => Below.heap_setCell _ _ _ q (hne q (by simp [hq])))
    have hB1 := Knd.At.but_put hB (j * 6 + 0) (.int .i64 (K))
    have hP2 := hP1.put j 1 (by rw [List.length_set]; exact HUL.out) (by decide) (.int .i64 (K + 1)) ({ fn := K, entry := K + 1, vals := x.vals, nums := x.nums, ops := x.ops, exits := x.exits } : DFast) (G4 ++ G5) HFJ.out (by rw [hseg1]; exact (kFast_Oi.2 ⟨v4, v5, G4, G5, rfl, rfl, o4_1, o5_1⟩))
    rw [List.set_set] at hP2
    have hseg2 := (Knd.At.seg_set_same (d := kFast) _ j 1 (.int .i64 (K + 1)) (by decide)).trans (congrArg (fun z => z.set 1 (.int .i64 (K + 1))) hseg1)
    have o4_2 : kFOp.Own 269 ((wr.setCell ⟨g, j * 6, none⟩ (.int .i64 (K))).setCell ⟨g, j * 6 + 1, none⟩ (.int .i64 (K + 1))) v4 x.ops G4 := o4_1.frame (fun q hq => Below.heap_setCell _ _ _ q (hne q (by simp [hq])))
    have o5_2 : kExit.Own 275 ((wr.setCell ⟨g, j * 6, none⟩ (.int .i64 (K))).setCell ⟨g, j * 6 + 1, none⟩ (.int .i64 (K + 1))) v5 x.exits G5 := o5_1.frame (fun q hq => Below.heap_setCell _ _ _ q (hne q (by simp [hq])))
    have hB2 := Knd.At.but_put hB1 (j * 6 + 1) (.int .i64 (K + 1))
    have hP3 := hP2.put j 2 (by rw [List.length_set]; exact HUL.out) (by decide) (.int .i64 (K + 1 + 1)) ({ fn := K, entry := K + 1, vals := K + 1 + 1, nums := x.nums, ops := x.ops, exits := x.exits } : DFast) (G4 ++ G5) HFJ.out (by rw [hseg2]; exact (kFast_Oi.2 ⟨v4, v5, G4, G5, rfl, rfl, o4_2, o5_2⟩))
    rw [List.set_set] at hP3
    have hseg3 := (Knd.At.seg_set_same (d := kFast) _ j 2 (.int .i64 (K + 1 + 1)) (by decide)).trans (congrArg (fun z => z.set 2 (.int .i64 (K + 1 + 1))) hseg2)
    have o4_3 : kFOp.Own 269 (((wr.setCell ⟨g, j * 6, none⟩ (.int .i64 (K))).setCell ⟨g, j * 6 + 1, none⟩ (.int .i64 (K + 1))).setCell ⟨g, j * 6 + 2, none⟩ (.int .i64 (K + 1 + 1))) v4 x.ops G4 := o4_2.frame (fun q hq => Below.heap_setCell _ _ _ q (hne q (by simp [hq])))
    have o5_3 : kExit.Own 275 (((wr.setCell ⟨g, j * 6, none⟩ (.int .i64 (K))).setCell ⟨g, j * 6 + 1, none⟩ (.int .i64 (K + 1))).setCell ⟨g, j * 6 + 2, none⟩ (.int .i64 (K + 1 + 1))) v5 x.exits G5 := o5_2.frame (fun q hq => Below.heap_setCell _ _ _ q (hne q (by simp [hq])))
    have hB3 := Knd.At.but_put hB2 (j * 6 + 2) (.int .i64 (K + 1 + 1))
    have hP4 := hP3.put j 3 (by rw [List.length_set]; exact HUL.out) (by decide) (.int .i64 (K + 1 + 1 + 1)) ({ fn := K, entry := K + 1, vals := K + 1 + 1, nums := K + 1 + 1 + 1, ops := x.ops, exits := x.exits } : DFast) (G4 ++ G5) HFJ.out (by rw [hseg3]; exact (kFast_Oi.2 ⟨v4, v5, G4, G5, rfl, rfl, o4_3, o5_3⟩))
    rw [List.set_set] at hP4
    have hseg4 := (Knd.At.seg_set_same (d := kFast) _ j 3 (.int .i64 (K + 1 + 1 + 1)) (by decide)).trans (congrArg (fun z => z.set 3 (.int .i64 (K + 1 + 1 + 1))) hseg3)
    have o4_4 : kFOp.Own 269 ((((wr.setCell ⟨g, j * 6, none⟩ (.int .i64 (K))).setCell ⟨g, j * 6 + 1, none⟩ (.int .i64 (K + 1))).setCell ⟨g, j * 6 + 2, none⟩ (.int .i64 (K + 1 + 1))).setCell ⟨g, j * 6 + 3, none⟩ (.int .i64 (K + 1 + 1 + 1))) v4 x.ops G4 := o4_3.frame (fun q hq => Below.heap_setCell _ _ _ q (hne q (by simp [hq])))
    have o5_4 : kExit.Own 275 ((((wr.setCell ⟨g, j * 6, none⟩ (.int .i64 (K))).setCell ⟨g, j * 6 + 1, none⟩ (.int .i64 (K + 1))).setCell ⟨g, j * 6 + 2, none⟩ (.int .i64 (K + 1 + 1))).setCell ⟨g, j * 6 + 3, none⟩ (.int .i64 (K + 1 + 1 + 1))) v5 x.exits G5 := o5_3.frame (fun q hq => Below.heap_setCell _ _ _ q (hne q (by simp [hq])))
    have hB4 := Knd.At.but_put hB3 (j * 6 + 3) (.int .i64 (K + 1 + 1 + 1))
    have C5 := markFOpS_c v4 x.ops (K + 1 + 1 + 1 + 1) G4 _ o4_4 hn4 (by omega) (by omega) hMx.1
    have cs4 : ((((wr.setCell ⟨g, j * 6, none⟩ (.int .i64 (K))).setCell ⟨g, j * 6 + 1, none⟩ (.int .i64 (K + 1))).setCell ⟨g, j * 6 + 2, none⟩ (.int .i64 (K + 1 + 1))).setCell ⟨g, j * 6 + 3, none⟩ (.int .i64 (K + 1 + 1 + 1))).cell? ⟨g, j * 6 + 4, none⟩ = some v4 := hP4.cellj j 4 (by rw [List.length_set]; exact HUL.out) hseg4 rfl
    have HP := Lib.hid hP4
    have HG := Lib.hid hseg4
    have HBB := Lib.hid hB4
    have HO4 := Lib.hid o4_4
    have HO5 := Lib.hid o5_4
    try clear hA
    try clear hseg
    try clear hB
    try clear hP1
    try clear hP2
    try clear hP3
    try clear hP4
    try clear hP5
    try clear hseg1
    try clear hseg2
    try clear hseg3
    try clear hseg4
    try clear hseg5
    try clear hB1
    try clear hB2
    try clear hB3
    try clear hB4
    try clear hB5
    try clear o4
    try clear o5
    try clear o4_1
    try clear o4_2
    try clear o4_3
    try clear o4_4
    try clear o4_5
    try clear o5_1
    try clear o5_2
    try clear o5_3
    try clear o5_4
    try clear o5_5
    go_wp2_with fail
    refine C5.mono ?_
    rintro e w5 ⟨rfl, ho5, hBi5⟩
    clear C5 cs4
    have o5_5 := HO5.out.frame (fun q hq => hBi5.block q (HO5.out.lt q hq) (fun hm => hdj q hm q hq rfl))
    have hT5 := HP.out.turn j (by rw [List.length_set]; exact HUL.out) ({ fn := K, entry := K + 1, vals := K + 1 + 1, nums := K + 1 + 1 + 1, ops := mkL mkFOp ctFOp (K + 1 + 1 + 1 + 1) x.ops, exits := x.exits } : DFast) (G4 ++ G5) G4 HFJ.out (fun q hq => by simp [hq]) hBi5 (by rw [HG.out]; exact (kFast_Oi.2 ⟨v4, v5, G4, G5, rfl, rfl, ho5, o5_5⟩))
    rw [List.set_set] at hT5
    have hP5 := hT5
    have hseg5 := HG.out
    have hB5 := Knd.At.but_turn HBB.out HFJ.out (fun q hq => by simp [hq]) hBi5
    clear hT5 HP HG HBB HO4 HO5
    have hkz5 : 0 ≤ K + 1 + 1 + 1 + 1 + (ctL ctFOp x.ops : Int) := by omega
    have C6 := markExitS_c v5 x.exits (K + 1 + 1 + 1 + 1 + ctL ctFOp x.ops) G5 _ o5_5 hn5 (by omega) (by omega) hMx.2
    have cs5 : w5.cell? ⟨g, j * 6 + 5, none⟩ = some v5 := hP5.cellj j 5 (by rw [List.length_set]; exact HUL.out) hseg5 rfl
    have HP := Lib.hid hP5
    have HG := Lib.hid hseg5
    have HBB := Lib.hid hB5
    have HO4 := Lib.hid ho5
    have HO5 := Lib.hid o5_5
    try clear hA
    try clear hseg
    try clear hB
    try clear hP1
    try clear hP2
    try clear hP3
    try clear hP4
    try clear hP5
    try clear hP6
    try clear hseg1
    try clear hseg2
    try clear hseg3
    try clear hseg4
    try clear hseg5
    try clear hseg6
    try clear hB1
    try clear hB2
    try clear hB3
    try clear hB4
    try clear hB5
    try clear hB6
    try clear o4
    try clear o5
    try clear o4_1
    try clear o4_2
    try clear o4_3
    try clear o4_4
    try clear o4_5
    try clear o4_6
    try clear o5_1
    try clear o5_2
    try clear o5_3
    try clear o5_4
    try clear o5_5
    try clear o5_6
    go_wp2_with fail
    refine C6.mono ?_
    rintro e w6 ⟨rfl, ho6, hBi6⟩
    clear C6 cs5
    have o4_6 := HO4.out.frame (fun q hq => hBi6.block q (HO4.out.lt q hq) (fun hm => hdj q hq q hm rfl))
    have hT6 := HP.out.turn j (by rw [List.length_set]; exact HUL.out) ({ fn := K, entry := K + 1, vals := K + 1 + 1, nums := K + 1 + 1 + 1, ops := mkL mkFOp ctFOp (K + 1 + 1 + 1 + 1) x.ops, exits := mkL mkExit ctExit (K + 1 + 1 + 1 + 1 + ctL ctFOp x.ops) x.exits } : DFast) (G4 ++ G5) G5 HFJ.out (fun q hq => by simp [hq]) hBi6 (by rw [HG.out]; exact (kFast_Oi.2 ⟨v4, v5, G4, G5, rfl, rfl, o4_6, ho6⟩))
    rw [List.set_set] at hT6
    have hP6 := hT6
    have hseg6 := HG.out
    have hB6 := Knd.At.but_turn HBB.out HFJ.out (fun q hq => by simp [hq]) hBi6
    clear hT6 HP HG HBB HO4 HO5
    have hkz6 : 0 ≤ K + 1 + 1 + 1 + 1 + ctL ctFOp x.ops + (ctL ctExit x.exits : Int) := by omega
    have HP := Lib.hid hP6
    have HG := Lib.hid hseg6
    have HBB := Lib.hid hB6
    have HO4 := Lib.hid o4_6
    have HO5 := Lib.hid ho6
    try clear hA
    try clear hseg
    try clear hB
    try clear hP1
    try clear hP2
    try clear hP3
    try clear hP4
    try clear hP5
    try clear hP6
    try clear hseg1
    try clear hseg2
    try clear hseg3
    try clear hseg4
    try clear hseg5
    try clear hseg6
    try clear hB1
    try clear hB2
    try clear hB3
    try clear hB4
    try clear hB5
    try clear hB6
    try clear o4
    try clear o5
    try clear o4_1
    try clear o4_2
    try clear o4_3
    try clear o4_4
    try clear o4_5
    try clear o4_6
    try clear o5_1
    try clear o5_2
    try clear o5_3
    try clear o5_4
    try clear o5_5
    try clear o5_6
    go_wp2
    go_roundw
    case rel =>
      have h9 := HP.out
      rw [show ({ fn := K, entry := K + 1, vals := K + 1 + 1, nums := K + 1 + 1 + 1, ops := mkL mkFOp ctFOp (K + 1 + 1 + 1 + 1) x.ops, exits := mkL mkExit ctExit (K + 1 + 1 + 1 + 1 + ctL ctFOp x.ops) x.exits } : DFast) = mkFast (k + ctL ctFast (l.take j)) x from by rw [HK.out]; rfl, hset.out] at h9
      exact ⟨j + 1, _, by omega, by rw [hct.out, ← HK.out]; simp [ctFast]; omega, by go_num, h9, HBB.out⟩
    case measure => simp [intOf]; omega
set_option maxHeartbeats 4000000 in
set_option maxRecDepth 100000 in
theorem heldFastS_c (A : Option Addr) (c : Nat) (l : List DFast) (k : Int) (w : World) (hr : kFast.Row w A l.length (mkL mkFast ctFast k l)) (h0 : 0 ≤ k) (h1 : k + ctL ctFast l ≤ 1152921504606846976) (hm : l.length ≤ 1048576 ∧ ∀ y ∈ l, MFast y) : Calls Tryz.prog 122 #[.slice A l.length c, .int .i64 k] w fun e w' => e = .returned (.int .i64 (k + ctL ctFast l)) ∧ Below w.heap.size w w' := by
  have hlm : l.length ≤ 1048576 := hm.1
  go_enter Tryz.func122, Tryz.ntmps122
  go_wp2
  go_loopw [1, 5] (fun u i wr => ∃ j : Nat, j ≤ l.length ∧ u = .int .i64 (k + ctL ctFast (l.take j)) ∧ i = .int .i64 j ∧ Below w.heap.size w wr) (fun _ i _ => l.length - (intOf i).toNat)
  case atStart => exact ⟨0, by omega, by simp [ctL], rfl, Below.refl _ _⟩
  case round =>
    obtain ⟨j, hj, rfl, rfl, hb⟩ := hrel
    by_cases hlt : j < l.length
    rotate_left
    · obtain rfl : j = l.length := by omega
      rw [List.take_length]
      go_wp2
      go_ret
      exact ⟨rfl, hb⟩
    obtain ⟨x, hx⟩ := get_exU l j hlt
    have hct := Lib.hid (ctL_snoc ctFast l j x hx)
    have hle := ctL_mem ctFast l j x hx
    have hMx := hm.2 x (List.mem_of_getElem? hx)
    have hget := mkL_get mkFast ctFast l k j x hx
    obtain ⟨K, hK⟩ : ∃ K, k + (ctL ctFast (l.take j) : Int) = K := ⟨_, rfl⟩
    have hK0 : 0 ≤ K := by omega
    have hK1 : K + ctFast x ≤ 1152921504606846976 := by omega
    rw [hK] at hget ⊢
    obtain ⟨ad, A4, A5, c4, c5, rfl, p0, p1, p2, p3, p4, p5, hl4, hr4, hl5, hr5⟩ := kFast_at (hr.below hb) j _ hget
    have le4 : (mkL mkFOp ctFOp (K + 1 + 1 + 1 + 1) x.ops).length = x.ops.length := mkL_len _ _ _ _
    have r4 : kFOp.Row wr A4 x.ops.length (mkL mkFOp ctFOp (K + 1 + 1 + 1 + 1) x.ops) := by have h9 := hr4; change kFOp.Row wr A4 (mkL mkFOp ctFOp (K + 1 + 1 + 1 + 1) x.ops).length (mkL mkFOp ctFOp (K + 1 + 1 + 1 + 1) x.ops) at h9; rwa [le4] at h9
    have le5 : (mkL mkExit ctExit (K + 1 + 1 + 1 + 1 + ctL ctFOp x.ops) x.exits).length = x.exits.length := mkL_len _ _ _ _
    have r5 : kExit.Row wr A5 x.exits.length (mkL mkExit ctExit (K + 1 + 1 + 1 + 1 + ctL ctFOp x.ops) x.exits) := by have h9 := hr5; change kExit.Row wr A5 (mkL mkExit ctExit (K + 1 + 1 + 1 + 1 + ctL ctFOp x.ops) x.exits).length (mkL mkExit ctExit (K + 1 + 1 + 1 + 1 + ctL ctFOp x.ops) x.exits) at h9; rwa [le5] at h9
    have q0 : wr.cell? (ad.add (j * 6)) = some (.int .i64 (K)) := p0
    have q1 : wr.cell? ⟨(ad.add (j * 6)).block, (ad.add (j * 6)).off + 1, none⟩ = some (.int .i64 (K + 1)) := p1
    have q2 : wr.cell? ⟨(ad.add (j * 6)).block, (ad.add (j * 6)).off + 2, none⟩ = some (.int .i64 (K + 1 + 1)) := p2
    have q3 : wr.cell? ⟨(ad.add (j * 6)).block, (ad.add (j * 6)).off + 3, none⟩ = some (.int .i64 (K + 1 + 1 + 1)) := p3
    have q4 : wr.cell? ⟨(ad.add (j * 6)).block, (ad.add (j * 6)).off + 4, none⟩ = some (.slice A4 x.ops.length c4) := by have h9 := p4; change wr.cell? ⟨(ad.add (j * 6)).block, (ad.add (j * 6)).off + 4, none⟩ = some (.slice A4 (mkL mkFOp ctFOp (K + 1 + 1 + 1 + 1) x.ops).length c4) at h9; rwa [le4] at h9
    have q5 : wr.cell? ⟨(ad.add (j * 6)).block, (ad.add (j * 6)).off + 5, none⟩ = some (.slice A5 x.exits.length c5) := by have h9 := p5; change wr.cell? ⟨(ad.add (j * 6)).block, (ad.add (j * 6)).off + 5, none⟩ = some (.slice A5 (mkL mkExit ctExit (K + 1 + 1 + 1 + 1 + ctL ctFOp x.ops) x.exits).length c5) at h9; rwa [le5] at h9
    have HK := Lib.hid hK
    unfold ctFast at hK1
    clear hget hle hx hK p0 p1 p2 p3 p4 p5 hr4 hl4 le4 hr5 hl5 le5
    have HR4 := Lib.hid r4
    clear r4
    have HR5 := Lib.hid r5
    clear r5
    have hb0 := Below.refl wr.heap.size wr
    go_wp2_with fail
    refine (heldFOpS_c A4 c4 x.ops (K + 1 + 1 + 1 + 1) _ (HR4.out.below hb0) (by omega) (by omega) hMx.1).mono ?_
    rintro e w4_ ⟨rfl, hc4⟩
    have hb5 := bl_step hb0 hc4
    clear hc4
    have s5_4 := kept hb5 q5
    have hkz4 : 0 ≤ K + 1 + 1 + 1 + 1 + (ctL ctFOp x.ops : Int) := by omega
    go_wp2_with fail
    refine (heldExitS_c A5 c5 x.exits (K + 1 + 1 + 1 + 1 + ctL ctFOp x.ops) _ (HR5.out.below hb5) (by omega) (by omega) hMx.2).mono ?_
    rintro e w5_ ⟨rfl, hc5⟩
    have hb6 := bl_step hb5 hc5
    clear hc5
    have hkz5 : 0 ≤ K + 1 + 1 + 1 + 1 + ctL ctFOp x.ops + (ctL ctExit x.exits : Int) := by omega
    go_wp2
    go_roundw
    case rel => exact ⟨j + 1, by omega, by rw [hct.out, ← HK.out]; simp [ctFast]; omega, by go_num, bl_step hb hb6⟩
    case measure => simp [intOf]; omega
end Go.Proofs.YticlknijmnddeaaGreat.Dat
