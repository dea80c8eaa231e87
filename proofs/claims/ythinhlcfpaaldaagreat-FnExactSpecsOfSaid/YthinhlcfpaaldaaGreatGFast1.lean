/- The laws' marks over one Fast. Written by a program (onegen.py). -/
import Derived.Test.YthinhlcfpaaldaaGreatGFast
namespace Go.Proofs.YthinhlcfpaaldaaGreat.Dat
open Go Go.RowKit Go.Proofs.YthinhlcfpaaldaaGreat.Mem
set_option linter.unusedVariables false
set_option linter.unusedSimpArgs false
set_option maxHeartbeats 4000000 in
set_option maxRecDepth 100000 in
theorem markFast_c (x : DFast) (v4 v5 : Value) (F4 F5 : List Nat) (k : Int) (w W : World) (L : List Res) (hS : St w L W) (n4 : Nat) (i4 : L[n4]? = some (Res.own kFOp 164 v4 x.ops F4)) (n5 : Nat) (i5 : L[n5]? = some (Res.own kExit 168 v5 x.exits F5)) (ne4_5 : n4 ≠ n5) (h0 : 0 ≤ k) (h1 : k + ctL ctFOp x.ops + ctL ctExit x.exits ≤ 1152921504606846976) (hM : MFast x) :
    Calls Tryz.prog 21 #[.agg #[.int .i64 x.fn, .int .i64 x.entry, .int .i64 x.vals, .int .i64 x.nums, v4, v5], .int .i64 k] W fun e w' => e = .returned (.int .i64 (k + ctL ctFOp x.ops + ctL ctExit x.exits)) ∧ St w (((L.set n4 (Res.own kFOp 164 v4 (mkL mkFOp ctFOp (k) x.ops) F4)).set n5 (Res.own kExit 168 v5 (mkL mkExit ctExit (k + ctL ctFOp x.ops) x.exits) F5))) w' := by
  obtain ⟨A4, c4, hv4, _, _⟩ := hS.row n4 i4
  subst hv4
  obtain ⟨A5, c5, hv5, _, _⟩ := hS.row n5 i5
  subst hv5
  have hS0 := hS.made (.cells #[.int .i64 x.fn, .int .i64 x.entry, .int .i64 x.vals, .int .i64 x.nums, .slice A4 x.ops.length c4, .slice A5 x.exits.length c5] 41 (0, 0))
  go_enter Tryz.func21, Tryz.ntmps21
  have j4 : (Res.box W.heap.size (.cells #[.int .i64 x.fn, .int .i64 x.entry, .int .i64 x.vals, .int .i64 x.nums, .slice A4 x.ops.length c4, .slice A5 x.exits.length c5] 41 (0, 0)) :: L)[n4 + 1]? = some (Res.own kFOp 164 (.slice A4 x.ops.length c4) x.ops F4) := by
    rw [List.getElem?_cons_succ]
    exact i4
  go_wp2_with fail
  refine (markFOpS_c _ x.ops (k) F4 _ (St.own_ hS0 _ j4) (hS0.nodup _ j4) (by omega) (by omega) hM.1).mono ?_
  rintro e w1 ⟨rfl, ho, hB⟩
  try clear x_b
  have hnd : F4.Nodup := hS0.nodup _ j4
  replace hS0 := hS0.upd (r' := Res.own kFOp 164 _ (mkL mkFOp ctFOp (k) x.ops) F4) _ j4 hB ho hnd (fun q hq => .inl hq)
  rw [List.set_cons_succ] at hS0
  have x_b := hS0.cell 0 rfl
  clear ho hB hnd j4
  have j5 : (Res.box W.heap.size (.cells #[.int .i64 x.fn, .int .i64 x.entry, .int .i64 x.vals, .int .i64 x.nums, .slice A4 x.ops.length c4, .slice A5 x.exits.length c5] 41 (0, 0)) :: (L.set n4 (Res.own kFOp 164 (.slice A4 x.ops.length c4) (mkL mkFOp ctFOp (k) x.ops) F4)))[n5 + 1]? = some (Res.own kExit 168 (.slice A5 x.exits.length c5) x.exits F5) := by
    rw [List.getElem?_cons_succ, List.getElem?_set_ne ne4_5]
    exact i5
  go_wp2_with fail
  refine (markExitS_c _ x.exits (k + ctL ctFOp x.ops) F5 _ (St.own_ hS0 _ j5) (hS0.nodup _ j5) (by omega) (by omega) hM.2).mono ?_
  rintro e w2 ⟨rfl, ho, hB⟩
  try clear x_b
  have hnd : F5.Nodup := hS0.nodup _ j5
  replace hS0 := hS0.upd (r' := Res.own kExit 168 _ (mkL mkExit ctExit (k + ctL ctFOp x.ops) x.exits) F5) _ j5 hB ho hnd (fun q hq => .inl hq)
  rw [List.set_cons_succ] at hS0
  have x_b := hS0.cell 0 rfl
  clear ho hB hnd j5
  go_wp2
  go_ret
  exact ⟨rfl, hS0.drop⟩
end Go.Proofs.YthinhlcfpaaldaaGreat.Dat
