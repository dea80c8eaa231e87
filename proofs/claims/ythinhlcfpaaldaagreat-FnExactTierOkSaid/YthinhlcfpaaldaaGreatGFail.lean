/- The laws' own functions over Fail. Written by a program (recgen.py). -/
import Derived.Test.YthinhlcfpaaldaaGreatK4
namespace Go.Proofs.YthinhlcfpaaldaaGreat.Dat
open Go Go.RowKit Go.Proofs.YthinhlcfpaaldaaGreat.Mem
set_option linter.unusedVariables false
set_option linter.unusedSimpArgs false
structure DFail where
  fn : Int
  pc : Int
  kind : Int
  count : Int
def zFail : DFail := ⟨0, 0, 0, 0⟩
def kFail : Knd DFail := Knd.iso (Knd.pair (Knd.int .i64) (Knd.pair (Knd.int .i64) (Knd.pair (Knd.int .i64) (Knd.int .i64)))) (fun x => (x.fn, x.pc, x.kind, x.count))
/-- What is handed in meets this. -/
def VFail (x : DFail) : Prop := (Lit.int .i64 x.fn).wf = true ∧ (Lit.int .i64 x.pc).wf = true ∧ (Lit.int .i64 x.kind).wf = true ∧ (Lit.int .i64 x.count).wf = true
theorem kFail_K {w : World} {x : DFail} {cs : List Value} : kFail.K w x cs ↔ cs = [.int .i64 x.fn, .int .i64 x.pc, .int .i64 x.kind, .int .i64 x.count] := by
  constructor
  · rintro ⟨_, _, rfl, rfl, ⟨_, _, rfl, rfl, ⟨_, _, rfl, rfl, rfl⟩⟩⟩
    rfl
  · rintro rfl
    exact ⟨[.int .i64 x.fn], [.int .i64 x.pc, .int .i64 x.kind, .int .i64 x.count], rfl, rfl, ⟨[.int .i64 x.pc], [.int .i64 x.kind, .int .i64 x.count], rfl, rfl, ⟨[.int .i64 x.kind], [.int .i64 x.count], rfl, rfl, rfl⟩⟩⟩
theorem kFail_at {w : World} {A : Option Addr} {m : Nat} {xs : List DFail} (h : kFail.Row w A m xs) (i : Nat) (x : DFail) (hx : xs[i]? = some x) : ∃ (ad : Addr), A = some ad ∧ w.cell? (ad.add (i * 4)) = some (.int .i64 x.fn) ∧ w.cell? ⟨(ad.add (i * 4)).block, (ad.add (i * 4)).off + 1, none⟩ = some (.int .i64 x.pc) ∧ w.cell? ⟨(ad.add (i * 4)).block, (ad.add (i * 4)).off + 2, none⟩ = some (.int .i64 x.kind) ∧ w.cell? ⟨(ad.add (i * 4)).block, (ad.add (i * 4)).off + 3, none⟩ = some (.int .i64 x.count) := by
  obtain ⟨ad, c, e, hK, hc0⟩ := h.get i x hx
  have hc : ∀ j u, c[j]? = some u → w.cell? (ad.add (i * 4 + j)) = some u := hc0
  obtain rfl := kFail_K.1 hK
  exact ⟨ad, e, hc 0 _ rfl, (by rw [← add_field _ _ 1 (by omega)]; exact hc 1 _ rfl), (by rw [← add_field _ _ 2 (by omega)]; exact hc 2 _ rfl), (by rw [← add_field _ _ 3 (by omega)]; exact hc 3 _ rfl)⟩
theorem kFail_Oi {w : World} {x : DFail} {cs : List Value} {F : List Nat} : kFail.O w x cs F ↔ cs = [.int .i64 x.fn, .int .i64 x.pc, .int .i64 x.kind, .int .i64 x.count] ∧ F = [] := by
  constructor
  · rintro ⟨_, _, _, _, rfl, rfl, ⟨rfl, rfl⟩, ⟨_, _, _, _, rfl, rfl, ⟨rfl, rfl⟩, ⟨_, _, _, _, rfl, rfl, ⟨rfl, rfl⟩, ⟨rfl, rfl⟩⟩⟩⟩
    exact ⟨rfl, rfl⟩
  · rintro ⟨rfl, rfl⟩
    have h : kFail.O w x [.int .i64 x.fn, .int .i64 x.pc, .int .i64 x.kind, .int .i64 x.count] (([] ++ ([] ++ ([] ++ [])))) := ⟨[.int .i64 x.fn], [.int .i64 x.pc, .int .i64 x.kind, .int .i64 x.count], [], ([] ++ ([] ++ [])), rfl, by simp, ⟨rfl, rfl⟩, ⟨[.int .i64 x.pc], [.int .i64 x.kind, .int .i64 x.count], [], ([] ++ []), rfl, by simp, ⟨rfl, rfl⟩, ⟨[.int .i64 x.kind], [.int .i64 x.count], [], [], rfl, by simp, ⟨rfl, rfl⟩, ⟨rfl, rfl⟩⟩⟩⟩
    simpa using h
set_option maxHeartbeats 4000000 in
set_option maxRecDepth 100000 in
theorem szFailS_c (A : Option Addr) (c : Nat) (l : List DFail) (left : Int) (w : World) (hr : kFail.Row w A l.length l) (hm : l.length ≤ maxLen) (hv : ∀ x ∈ l, VFail x) (h0 : 0 ≤ left) (h1 : left ≤ 1048576) : Calls Tryz.prog 76 #[.slice A l.length c, .int .i64 left] w fun e w' => e = .returned (.int .i64 (lft (l.length) left)) ∧ Below w.heap.size w w' := by
  unfold maxLen at hm
  by_cases h : (l.length : Int) ≤ left
  · have h2 : 0 ≤ left - (l.length : Int) := by omega
    go_enter Tryz.func76, Tryz.ntmps76
    go_wp2
    go_ret
    exact ⟨by simp [lft, h], Below.refl _ _⟩
  · have h2 : left - (l.length : Int) < 0 := by omega
    go_enter Tryz.func76, Tryz.ntmps76
    go_wp2
    go_ret
    exact ⟨by simp [lft]; omega, Below.refl _ _⟩
theorem infoFail : (Tryz.prog.info? 217).map (fun i => (i.zero, i.size, i.bytes)) = some (some (.agg #[.int .i64 0, .int .i64 0, .int .i64 0, .int .i64 0]), 4, 32) := by kernel_rfl
set_option maxHeartbeats 4000000 in
set_option maxRecDepth 100000 in
theorem toFail_c (x : DFail) (w : World) : Calls Tryz.prog 147 #[.agg #[.int .i64 x.fn, .int .i64 x.pc, .int .i64 x.kind, .int .i64 x.count]] w fun e w' => e = .returned (.agg #[.int .i64 x.fn, .int .i64 x.pc, .int .i64 x.kind, .int .i64 x.count]) ∧ Below w.heap.size w w' := by
  go_enter Tryz.func147, Tryz.ntmps147
  go_wp2
  refine bodyPost_ret (v := .agg #[.int .i64 x.fn, .int .i64 x.pc, .int .i64 x.kind, .int .i64 x.count]) (by simp [results, Tryz.results147, go_sem, true_and, *]) rfl ⟨rfl, bl9⟩
theorem zFail_O (w : World) : kFail.O w zFail (Value.agg #[.int .i64 0, .int .i64 0, .int .i64 0, .int .i64 0]).cells.toList [] := kFail_Oi.2 ⟨rfl, rfl⟩
set_option maxHeartbeats 4000000 in
set_option maxRecDepth 100000 in
theorem toFailS_c (A : Option Addr) (c : Nat) (l : List DFail) (w : World) (hr : kFail.Row w A l.length l) (hm : l.length ≤ 1048576) : Calls Tryz.prog 80 #[.slice A l.length c] w (NewRow kFail 217 l w) := by
  go_enter Tryz.func80, Tryz.ntmps80
  go_wp2_with (refine Knd.wp_made kFail rfl _ _ _ rfl l.length rfl rfl 217 Tryz.underlying70 (.agg #[.int .i64 0, .int .i64 0, .int .i64 0, .int .i64 0]) 32 infoFail rfl (by decide) (by omega) zFail zFail_O (by omega) ?_; rintro g w1 hg ho hb hz; have HG := Lib.hid hg; clear hg)
  have hg0 : w.heap.size ≤ g := Nat.le_of_eq HG.out.symm
  go_loopw [4] (fun i wr => ∃ k : Nat, k ≤ l.length ∧ i = .int .i64 k ∧ kFail.OwnF 217 wr (.slice (some ⟨g, 0, none⟩) l.length l.length) (l.take k ++ List.replicate (l.length - k) zFail) (List.replicate l.length []) ∧ Below w.heap.size w wr) (fun i _ => l.length - (intOf i).toNat)
  case atStart => exact ⟨0, by omega, rfl, by simpa using ho, hb⟩
  case round =>
    obtain ⟨k, hk, rfl, ho, hb⟩ := hrel
    by_cases hlt : k < l.length
    · obtain ⟨x, hx⟩ := get_exT l k hlt
      obtain ⟨ad, rfl, q0, q1, q2, q3⟩ := kFail_at (hr.below hb) k x hx
      have hp := part_set l zFail x k hx
      have hle : k < (l.take k ++ List.replicate (l.length - k) zFail).length := by simp; omega
      have hlen : (l.take k ++ List.replicate (l.length - k) zFail).length = l.length := by simp; omega
      have HP := Lib.hid hp
      have HX := Lib.hid hx
      have HL := Lib.hid hlen
      clear hp hx hlen
      have C := toFail_c x wr
      go_wp2_with fail
      refine C.mono ?_
      rintro e w' ⟨rfl, hb2⟩
      have ho2 := ho.below hb2
      obtain ⟨u0, s0⟩ := ho2.cell (k * 4) (by rw [HL.out]; show _ < l.length * 4; omega)
      have f0 := ho2.free (k * 4)
      obtain ⟨u1, s1⟩ := ho2.cell (k * 4 + 1) (by rw [HL.out]; show _ < l.length * 4; omega)
      have f1 := ho2.free (k * 4 + 1)
      obtain ⟨u2, s2⟩ := ho2.cell (k * 4 + 2) (by rw [HL.out]; show _ < l.length * 4; omega)
      have f2 := ho2.free (k * 4 + 2)
      obtain ⟨u3, s3⟩ := ho2.cell (k * 4 + 3) (by rw [HL.out]; show _ < l.length * 4; omega)
      have f3 := ho2.free (k * 4 + 3)
      go_wp2
      go_roundw
      case rel =>
        refine ⟨k + 1, by omega, by go_num, ?_, ?_⟩
        · have h1 := ho2.put k hle [.int .i64 x.fn, .int .i64 x.pc, .int .i64 x.kind, .int .i64 x.count] x [] (kFail_Oi.2 ⟨rfl, rfl⟩) (by simp) (by rw [rep_flat]; simp)
          rw [HP.out, rep_set] at h1
          exact h1
        · exact bl9
      case measure => simp [intOf]; omega
    · obtain rfl : k = l.length := by omega
      go_wp2
      go_ret
      have h1 := ho.own
      rw [List.take_length, Nat.sub_self, List.replicate_zero, List.append_nil, rep_flat] at h1
      exact ⟨_, _, rfl, h1, by simp [Value.ownBlock], by simp [Value.ownBlock]; rw [HG.out]; exact Nat.le_refl _, hb⟩
set_option maxHeartbeats 4000000 in
set_option maxRecDepth 100000 in
theorem eqFail_c (x : DFail) (w : World) : Calls Tryz.prog 155 #[.agg #[.int .i64 x.fn, .int .i64 x.pc, .int .i64 x.kind, .int .i64 x.count], .agg #[.int .i64 x.fn, .int .i64 x.pc, .int .i64 x.kind, .int .i64 x.count]] w fun e w' => e = .returned (.bool true) ∧ Below w.heap.size w w' := by
  go_enter Tryz.func155, Tryz.ntmps155
  go_wp2
  go_ret
  exact ⟨rfl, bl9⟩
set_option maxHeartbeats 4000000 in
set_option maxRecDepth 100000 in
theorem eqFailS_c (A B : Option Addr) (c c' : Nat) (l : List DFail) (w : World) (hr : kFail.Row w A l.length l) (hr' : kFail.Row w B l.length l) : Calls Tryz.prog 85 #[.slice A l.length c, .slice B l.length c'] w fun e w' => e = .returned (.bool true) ∧ Below w.heap.size w w' := by
  have hm := hr.2.1
  go_enter Tryz.func85, Tryz.ntmps85
  go_wp2
  go_loopw [5] (fun i wr => ∃ k : Nat, k ≤ l.length ∧ i = .int .i64 k ∧ Below w.heap.size w wr) (fun i _ => l.length - (intOf i).toNat)
  case atStart => exact ⟨0, by omega, rfl, Below.refl _ _⟩
  case round =>
    obtain ⟨k, hk, rfl, hb⟩ := hrel
    by_cases hlt : k < l.length
    · obtain ⟨x, hx⟩ := get_exE l k hlt
      obtain ⟨ady, rfl, q0, q1, q2, q3⟩ := kFail_at (hr.below hb) k x hx
      obtain ⟨adz, rfl, p0, p1, p2, p3⟩ := kFail_at (hr'.below hb) k x hx
      clear hx
      go_wp2
      go_region_held3 (fun w' => w'.cell? (ady.add (k * 4)) = some (.int .i64 x.fn) ∧ w'.cell? ⟨(ady.add (k * 4)).block, (ady.add (k * 4)).off + 1, none⟩ = some (.int .i64 x.pc) ∧ w'.cell? ⟨(ady.add (k * 4)).block, (ady.add (k * 4)).off + 2, none⟩ = some (.int .i64 x.kind) ∧ w'.cell? ⟨(ady.add (k * 4)).block, (ady.add (k * 4)).off + 3, none⟩ = some (.int .i64 x.count) ∧ w'.cell? (adz.add (k * 4)) = some (.int .i64 x.fn) ∧ w'.cell? ⟨(adz.add (k * 4)).block, (adz.add (k * 4)).off + 1, none⟩ = some (.int .i64 x.pc) ∧ w'.cell? ⟨(adz.add (k * 4)).block, (adz.add (k * 4)).off + 2, none⟩ = some (.int .i64 x.kind) ∧ w'.cell? ⟨(adz.add (k * 4)).block, (adz.add (k * 4)).off + 3, none⟩ = some (.int .i64 x.count) ∧ Below wr.heap.size wr w') ((refine ⟨?_, ?_, ?_, ?_, ?_, ?_, ?_, ?_, ?_⟩ <;> first | assumption | (go_keep; done) | exact bl9)) (first | (go_at_call 155; refine (eqFail_c _ _).mono ?_; rintro e w' ⟨rfl, hb2⟩; have q0 := kept hb2 q0; have q1 := kept hb2 q1; have q2 := kept hb2 q2; have q3 := kept hb2 q3; have p0 := kept hb2 p0; have p1 := kept hb2 p1; have p2 := kept hb2 p2; have p3 := kept hb2 p3; have hW2 : Below wr.heap.size wr w' := bl9))
      go_wp2
      go_roundw
      case rel => exact ⟨k + 1, by omega, by go_num, bl9⟩
      case measure => simp [intOf]; omega
    · go_wp2
      go_ret
      exact ⟨rfl, hb⟩
end Go.Proofs.YthinhlcfpaaldaaGreat.Dat
