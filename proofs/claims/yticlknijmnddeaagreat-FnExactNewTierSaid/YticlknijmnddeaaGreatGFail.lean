/- The laws' own functions over Fail. Written by a program (recgen.py). -/
import Derived.Test.YticlknijmnddeaaGreatK4
namespace Go.Proofs.YticlknijmnddeaaGreat.Dat
open Go Go.RowKit Go.Proofs.YticlknijmnddeaaGreat.Mem
set_option linter.unusedVariables false
set_option linter.unusedSimpArgs false
structure DFail where
  fn : Int
  pc : Int
  kind : Int
  count : Int
def zFail : DFail := ⟨0, 0, 0, 0⟩
def kFail : Knd DFail := Knd.iso (Knd.pair (Knd.int .i64) (Knd.pair (Knd.int .i64) (Knd.pair (Knd.int .i64) (Knd.int .i64)))) (fun x => (x.fn, x.pc, x.kind, x.count))
/-- What is handed in meets this. -/
def VFail (x : DFail) : Prop := (Lit.int .i64 x.fn).wf = true ∧ (Lit.int .i64 x.pc).wf = true ∧ (Lit.int .i64 x.kind).wf = true ∧ (Lit.int .i64 x.count).wf = true
theorem kFail_K {w : World} {x : DFail} {cs : List Value} : kFail.K w x cs ↔ cs = [.int .i64 x.fn, .int .i64 x.pc, .int .i64 x.kind, .int .i64 x.count] := by
  constructor
  · rintro ⟨_, _, rfl, rfl, ⟨_, _, rfl, rfl, ⟨_, _, rfl, rfl, rfl⟩⟩⟩
    rfl
  · rintro rfl
    exact ⟨[.int .i64 x.fn], [.int .i64 x.pc, .int .i64 x.kind, .int .i64 x.count], rfl, rfl, ⟨[.int .i64 x.pc], [.int .i64 x.kind, .int .i64 x.count], rfl, rfl, ⟨[.int .i64 x.kind], [.int .i64 x.count], rfl, rfl, rfl⟩⟩⟩
theorem kFail_at {w : World} {A : Option Addr} {m : Nat} {xs : List DFail} (h : kFail.Row w A m xs) (i : Nat) (x : DFail) (hx : xs[i]? = some x) : ∃ (ad : Addr), A = some ad ∧ w.cell? (ad.add (i * 4)) = some (.int .i64 x.fn) ∧ w.cell? ⟨(ad.add (i * 4)).block, (ad.add (i * 4)).off + 1, none⟩ = some (.int .i64 x.pc) ∧ w.cell? ⟨(ad.add (i * 4)).block, (ad.add (i * 4)).off + 2, none⟩ = some (.int .i64 x.kind) ∧ w.cell? ⟨(ad.add (i * 4)).block, (ad.add (i * 4)).off + 3, none⟩ = some (.int .i64 x.count) := by
  obtain ⟨ad, c, e, hK, hc0⟩ := h.get i x hx
  have hc : ∀ j u, c[j]? = some u → w.cell? (ad.add (i * 4 + j)) = some u := hc0
  obtain rfl := kFail_K.1 hK
  exact ⟨ad, e, hc 0 _ rfl, (by rw [← add_field _ _ 1 (by omega)]; exact hc 1 _ rfl), (by rw [← add_field _ _ 2 (by omega)]; exact hc 2 _ rfl), (by rw [← add_field _ _ 3 (by omega)]; exact hc 3 _ rfl)⟩
def ctFail (x : DFail) : Nat := 4
def mkFail (k : Int) (x : DFail) : DFail := { fn := k, pc := k + 1, kind := k + 1 + 1, count := k + 1 + 1 + 1 }
theorem kFail_Oi {w : World} {x : DFail} {cs : List Value} {F : List Nat} : kFail.O w x cs F ↔ cs = [.int .i64 x.fn, .int .i64 x.pc, .int .i64 x.kind, .int .i64 x.count] ∧ F = [] := by
  constructor
  · rintro ⟨_, _, _, _, rfl, rfl, ⟨rfl, rfl⟩, ⟨_, _, _, _, rfl, rfl, ⟨rfl, rfl⟩, ⟨_, _, _, _, rfl, rfl, ⟨rfl, rfl⟩, ⟨rfl, rfl⟩⟩⟩⟩
    exact ⟨rfl, rfl⟩
  · rintro ⟨rfl, rfl⟩
    have h : kFail.O w x [.int .i64 x.fn, .int .i64 x.pc, .int .i64 x.kind, .int .i64 x.count] (([] ++ ([] ++ ([] ++ [])))) := ⟨[.int .i64 x.fn], [.int .i64 x.pc, .int .i64 x.kind, .int .i64 x.count], [], ([] ++ ([] ++ [])), rfl, by simp, ⟨rfl, rfl⟩, ⟨[.int .i64 x.pc], [.int .i64 x.kind, .int .i64 x.count], [], ([] ++ []), rfl, by simp, ⟨rfl, rfl⟩, ⟨[.int .i64 x.kind], [.int .i64 x.count], [], [], rfl, by simp, ⟨rfl, rfl⟩, ⟨rfl, rfl⟩⟩⟩⟩
    simpa using h
theorem infoFail : (Tryz.prog.info? 232).map (fun i => (i.zero, i.size, i.bytes)) = some (some (.agg #[.int .i64 0, .int .i64 0, .int .i64 0, .int .i64 0]), 4, 32) := by kernel_rfl
theorem zFail_O (w : World) : kFail.O w zFail (Value.agg #[.int .i64 0, .int .i64 0, .int .i64 0, .int .i64 0]).cells.toList [] := kFail_Oi.2 ⟨rfl, rfl⟩
set_option maxHeartbeats 4000000 in
set_option maxRecDepth 100000 in
theorem eqFail_c (x : DFail) (w : World) : Calls Tryz.prog 189 #[.agg #[.int .i64 x.fn, .int .i64 x.pc, .int .i64 x.kind, .int .i64 x.count], .agg #[.int .i64 x.fn, .int .i64 x.pc, .int .i64 x.kind, .int .i64 x.count]] w fun e w' => e = .returned (.bool true) ∧ Below w.heap.size w w' := by
  go_enter Tryz.func189, Tryz.ntmps189
  go_wp2
  go_ret
  exact ⟨rfl, (by repeat (first | with_reducible exact Below.refl _ _ | with_reducible assumption | (with_reducible refine bl_set ?_ (by dsimp only; omega) _) | with_reducible refine bl_alloc ?_ _ | with_reducible refine bl_drewN ?_ _ | with_reducible refine bl_drew ?_ | with_reducible refine bl_step ?_ (by with_reducible assumption) | exact Below.refl _ _ | assumption | (refine bl_set ?_ (by dsimp only; omega) _) | refine bl_alloc ?_ _ | refine bl_drewN ?_ _ | refine bl_drew ?_ | refine bl_step ?_ (by assumption)))⟩
set_option maxHeartbeats 4000000 in
set_option maxRecDepth 100000 in
theorem eqFailS_c (A B : Option Addr) (c c' : Nat) (l : List DFail) (w : World) (hr : kFail.Row w A l.length l) (hr' : kFail.Row w B l.length l) : Calls Tryz.prog 118 #[.slice A l.length c, .slice B l.length c'] w fun e w' => e = .returned (.bool true) ∧ Below w.heap.size w w' := by
  have hm := hr.2.1
  go_enter Tryz.func118, Tryz.ntmps118
  go_wp2
  go_loopw [5] (fun i wr => ∃ k : Nat, k ≤ l.length ∧ i = .int .i64 k ∧ Below w.heap.size w wr) (fun i _ => l.length - (intOf i).toNat)
  case atStart => exact ⟨0, by omega, rfl, Below.refl _ _⟩
  case round =>
    obtain ⟨k, hk, rfl, hb⟩ := hrel
    by_cases hlt : k < l.length
    · obtain ⟨x, hx⟩ := get_exE l k hlt
      obtain ⟨ady, rfl, q0, q1, q2, q3⟩ := kFail_at (hr.below hb) k x hx
      obtain ⟨adz, rfl, p0, p1, p2, p3⟩ := kFail_at (hr'.below hb) k x hx
      clear hx
      go_wp2
      go_region_held3 (fun w' => w'.cell? (ady.add (k * 4)) = some (.int .i64 x.fn) ∧ w'.cell? ⟨(ady.add (k * 4)).block, (ady.add (k * 4)).off + 1, none⟩ = some (.int .i64 x.pc) ∧ w'.cell? ⟨(ady.add (k * 4)).block, (ady.add (k * 4)).off + 2, none⟩ = some (.int .i64 x.kind) ∧ w'.cell? ⟨(ady.add (k * 4)).block, (ady.add (k * 4)).off + 3, none⟩ = some (.int .i64 x.count) ∧ w'.cell? (adz.add (k * 4)) = some (.int .i64 x.fn) ∧ w'.cell? ⟨(adz.add (k * 4)).block, (adz.add (k * 4)).off + 1, none⟩ = some (.int .i64 x.pc) ∧ w'.cell? ⟨(adz.add (k * 4)).block, (adz.add (k * 4)).off + 2, none⟩ = some (.int .i64 x.kind) ∧ w'.cell? ⟨(adz.add (k * 4)).block, (adz.add (k * 4)).off + 3, none⟩ = some (.int .i64 x.count) ∧ Below wr.heap.size wr w') ((refine ⟨?_, ?_, ?_, ?_, ?_, ?_, ?_, ?_, ?_⟩ <;> first | assumption | (go_keep; done) | exact (by repeat (first | with_reducible exact Below.refl _ _ | with_reducible assumption | (with_reducible refine bl_set ?_ (by dsimp only; omega) _) | with_reducible refine bl_alloc ?_ _ | with_reducible refine bl_drewN ?_ _ | with_reducible refine bl_drew ?_ | with_reducible refine bl_step ?_ (by with_reducible assumption) | exact Below.refl _ _ | assumption | (refine bl_set ?_ (by dsimp only; omega) _) | refine bl_alloc ?_ _ | refine bl_drewN ?_ _ | refine bl_drew ?_ | refine bl_step ?_ (by assumption))))) (first | (go_at_call 189; refine (eqFail_c _ _).mono ?_; rintro e w' ⟨rfl, hb2⟩; have q0 := kept hb2 q0; have q1 := kept hb2 q1; have q2 := kept hb2 q2; have q3 := kept hb2 q3; have p0 := kept hb2 p0; have p1 := kept hb2 p1; have p2 := kept hb2 p2; have p3 := kept hb2 p3; have hW2 : Below wr.heap.size wr w' := (by repeat (first | with_reducible exact Below.refl _ _ | with_reducible assumption | (with_reducible refine bl_set ?_ (by dsimp only; omega) _) | with_reducible refine bl_alloc ?_ _ | with_reducible refine bl_drewN ?_ _ | with_reducible refine bl_drew ?_ | with_reducible refine bl_step ?_ (by with_reducible assumption) | exact Below.refl _ _ | assumption | (refine bl_set ?_ (by dsimp only; omega) _) | refine bl_alloc ?_ _ | refine bl_drewN ?_ _ | refine bl_drew ?_ | refine bl_step ?_ (by assumption)))))
      go_wp2
      go_roundw
      case rel => exact ⟨k + 1, by omega, by go_num, (by repeat (first | with_reducible exact Below.refl _ _ | with_reducible assumption | (with_reducible refine bl_set ?_ (by dsimp only; omega) _) | with_reducible refine bl_alloc ?_ _ | with_reducible refine bl_drewN ?_ _ | with_reducible refine bl_drew ?_ | with_reducible refine bl_step ?_ (by with_reducible assumption) | exact Below.refl _ _ | assumption | (refine bl_set ?_ (by dsimp only; omega) _) | refine bl_alloc ?_ _ | refine bl_drewN ?_ _ | refine bl_drew ?_ | refine bl_step ?_ (by assumption)))⟩
      case measure => simp [intOf]; omega
    · go_wp2
      go_ret
      exact ⟨rfl, hb⟩
theorem ctLeFail (l : List DFail) : ctL ctFail l ≤ 4 * l.length := by
  have h := ctL_const 4 l
  have e : ctFail = fun _ => 4 := rfl
  rw [e]
  omega
set_option maxHeartbeats 4000000 in
set_option maxRecDepth 100000 in
theorem markFailS_c (v : Value) (l : List DFail) (k : Int) (F : List Nat) (w : World) (h : kFail.Own 232 w v l F) (hnd : F.Nodup) (h0 : 0 ≤ k) (h1 : k + ctL ctFail l ≤ 1152921504606846976) (hm : l.length ≤ 1048576) : Calls Tryz.prog 121 #[v, .int .i64 k] w fun e w' => e = .returned (.int .i64 (k + ctL ctFail l)) ∧ kFail.Own 232 w' v (mkL mkFail ctFail k l) F ∧ But F w w' := by
  have hlm : l.length ≤ 1048576 := hm
  by_cases hn : 0 < l.length
  rotate_left
  · have e : l = [] := List.eq_nil_of_length_eq_zero (by omega)
    subst e
    obtain ⟨A, c, rfl, _, _⟩ := h.row
    go_enter Tryz.func121, Tryz.ntmps121
    go_wp2
    go_loopw [1, 5] (fun u i wr => u = .int .i64 k ∧ i = .int .i64 0 ∧ w = wr) (fun _ i _ => 0)
    case atStart => exact ⟨rfl, rfl, rfl⟩
    case round =>
      obtain ⟨rfl, rfl, rfl⟩ := hrel
      go_wp2
      go_ret
      exact ⟨by simp [ctL], h, But.refl _ _⟩
  obtain ⟨g, c, Fs, inner, rfl, hFe, hA0⟩ := h.toAt hnd hn
  subst hFe
  clear h hnd
  go_enter Tryz.func121, Tryz.ntmps121
  go_wp2
  go_loopw [1, 5] (fun u i wr => ∃ (j : Nat) (inner : List Value), j ≤ l.length ∧ u = .int .i64 (k + ctL ctFail (l.take j)) ∧ i = .int .i64 j ∧ kFail.At 232 wr g l.length c (upto mkFail ctFail k l j) Fs inner ∧ But (g :: Fs.flatten) w wr) (fun _ i _ => l.length - (intOf i).toNat)
  case atStart => exact ⟨0, inner, by omega, by simp [ctL], rfl, by rw [upto_0]; exact hA0, But.refl _ _⟩
  case round =>
    clear hA0
    obtain ⟨j, inner, hj, rfl, rfl, hA, hB⟩ := hrel
    by_cases hlt : j < l.length
    rotate_left
    · obtain rfl : j = l.length := by omega
      rw [upto_all] at hA
      rw [List.take_length]
      go_wp2
      go_ret
      exact ⟨rfl, hA.own, hB⟩
    obtain ⟨x, hx⟩ := get_exU l j hlt
    have hset := Lib.hid (upto_set mkFail ctFail k l j x hx)
    have hct := Lib.hid (ctL_snoc ctFail l j x hx)
    have hle := ctL_mem ctFail l j x hx
    have hul : j < (upto mkFail ctFail k l j).length := by rw [upto_len]; exact hlt
    obtain ⟨Fj, hFj, hO, _⟩ := hA.elem j x (upto_get mkFail ctFail k l j x hx)
    obtain ⟨hseg, hFn⟩ := kFail_Oi.1 hO
    have hFn := hFn.symm
    subst hFn
    obtain ⟨K, hK⟩ : ∃ K, k + (ctL ctFail (l.take j) : Int) = K := ⟨_, rfl⟩
    have hK0 : 0 ≤ K := by omega
    have hK1 : K + ctFail x ≤ 1152921504606846976 := by omega
    rw [hK]
    have HK := Lib.hid hK
    unfold ctFail at hK1
    have HUL := Lib.hid hul
    have HFJ := Lib.hid hFj
    clear hK hle hO hx
    have c0 : wr.cell? ⟨g, j * 4, none⟩ = some (.int .i64 (x.fn)) := hA.cellj j 0 HUL.out hseg rfl
    have f0 : wr.frozen? ⟨g, j * 4, none⟩ = false := hA.free _
    have c1 : wr.cell? ⟨g, j * 4 + 1, none⟩ = some (.int .i64 (x.pc)) := hA.cellj j 1 HUL.out hseg rfl
    have f1 : wr.frozen? ⟨g, j * 4 + 1, none⟩ = false := hA.free _
    have c2 : wr.cell? ⟨g, j * 4 + 2, none⟩ = some (.int .i64 (x.kind)) := hA.cellj j 2 HUL.out hseg rfl
    have f2 : wr.frozen? ⟨g, j * 4 + 2, none⟩ = false := hA.free _
    have c3 : wr.cell? ⟨g, j * 4 + 3, none⟩ = some (.int .i64 (x.count)) := hA.cellj j 3 HUL.out hseg rfl
    have f3 : wr.frozen? ⟨g, j * 4 + 3, none⟩ = false := hA.free _
    have hP1 := hA.put j 0 HUL.out (by decide) (.int .i64 (K)) ({ fn := K, pc := x.pc, kind := x.kind, count := x.count } : DFail) [] HFJ.out (by rw [hseg]; exact (kFail_Oi.2 ⟨rfl, rfl⟩))
    have hseg1 := (Knd.At.seg_set_same (d := kFail) _ j 0 (.int .i64 (K)) (by decide)).trans (congrArg (fun z => z.set 0 (.int .i64 (K))) hseg)
    have hB1 := Knd.At.but_put hB (j * 4 + 0) (.int .i64 (K))
    have hP2 := hP1.put j 1 (by rw [List.length_set]; exact HUL.out) (by decide) (.int .i64 (K + 1)) ({ fn := K, pc := K + 1, kind := x.kind, count := x.count } : DFail) [] HFJ.out (by rw [hseg1]; exact (kFail_Oi.2 ⟨rfl, rfl⟩))
    rw [List.set_set] at hP2
    have hseg2 := (Knd.At.seg_set_same (d := kFail) _ j 1 (.int .i64 (K + 1)) (by decide)).trans (congrArg (fun z => z.set 1 (.int .i64 (K + 1))) hseg1)
    have hB2 := Knd.At.but_put hB1 (j * 4 + 1) (.int .i64 (K + 1))
    have hP3 := hP2.put j 2 (by rw [List.length_set]; exact HUL.out) (by decide) (.int .i64 (K + 1 + 1)) ({ fn := K, pc := K + 1, kind := K + 1 + 1, count := x.count } : DFail) [] HFJ.out (by rw [hseg2]; exact (kFail_Oi.2 ⟨rfl, rfl⟩))
    rw [List.set_set] at hP3
    have hseg3 := (Knd.At.seg_set_same (d := kFail) _ j 2 (.int .i64 (K + 1 + 1)) (by decide)).trans (congrArg (fun z => z.set 2 (.int .i64 (K + 1 + 1))) hseg2)
    have hB3 := Knd.At.but_put hB2 (j * 4 + 2) (.int .i64 (K + 1 + 1))
    have hP4 := hP3.put j 3 (by rw [List.length_set]; exact HUL.out) (by decide) (.int .i64 (K + 1 + 1 + 1)) ({ fn := K, pc := K + 1, kind := K + 1 + 1, count := K + 1 + 1 + 1 } : DFail) [] HFJ.out (by rw [hseg3]; exact (kFail_Oi.2 ⟨rfl, rfl⟩))
    rw [List.set_set] at hP4
    have hseg4 := (Knd.At.seg_set_same (d := kFail) _ j 3 (.int .i64 (K + 1 + 1 + 1)) (by decide)).trans (congrArg (fun z => z.set 3 (.int .i64 (K + 1 + 1 + 1))) hseg3)
    have hB4 := Knd.At.but_put hB3 (j * 4 + 3) (.int .i64 (K + 1 + 1 + 1))
    have HP := Lib.hid hP4
    have HG := Lib.hid hseg4
    have HBB := Lib.hid hB4
    try clear hA
    try clear hseg
    try clear hB
    try clear hP1
    try clear hP2
    try clear hP3
    try clear hP4
    try clear hseg1
    try clear hseg2
    try clear hseg3
    try clear hseg4
    try clear hB1
    try clear hB2
    try clear hB3
    try clear hB4
    go_wp2
    go_roundw
    case rel =>
      have h9 := HP.out
      rw [show ({ fn := K, pc := K + 1, kind := K + 1 + 1, count := K + 1 + 1 + 1 } : DFail) = mkFail (k + ctL ctFail (l.take j)) x from by rw [HK.out]; rfl, hset.out] at h9
      exact ⟨j + 1, _, by omega, by rw [hct.out, ← HK.out]; simp [ctFail]; omega, by go_num, h9, HBB.out⟩
    case measure => simp [intOf]; omega
set_option maxHeartbeats 4000000 in
set_option maxRecDepth 100000 in
theorem heldFailS_c (A : Option Addr) (c : Nat) (l : List DFail) (k : Int) (w : World) (hr : kFail.Row w A l.length (mkL mkFail ctFail k l)) (h0 : 0 ≤ k) (h1 : k + ctL ctFail l ≤ 1152921504606846976) (hm : l.length ≤ 1048576) : Calls Tryz.prog 123 #[.slice A l.length c, .int .i64 k] w fun e w' => e = .returned (.int .i64 (k + ctL ctFail l)) ∧ Below w.heap.size w w' := by
  have hlm : l.length ≤ 1048576 := hm
  go_enter Tryz.func123, Tryz.ntmps123
  go_wp2
  go_loopw [1, 5] (fun u i wr => ∃ j : Nat, j ≤ l.length ∧ u = .int .i64 (k + ctL ctFail (l.take j)) ∧ i = .int .i64 j ∧ Below w.heap.size w wr) (fun _ i _ => l.length - (intOf i).toNat)
  case atStart => exact ⟨0, by omega, by simp [ctL], rfl, Below.refl _ _⟩
  case round =>
    obtain ⟨j, hj, rfl, rfl, hb⟩ := hrel
    by_cases hlt : j < l.length
    rotate_left
    · obtain rfl : j = l.length := by omega
      rw [List.take_length]
      go_wp2
      go_ret
      exact ⟨rfl, hb⟩
    obtain ⟨x, hx⟩ := get_exU l j hlt
    have hct := Lib.hid (ctL_snoc ctFail l j x hx)
    have hle := ctL_mem ctFail l j x hx
    have hget := mkL_get mkFail ctFail l k j x hx
    obtain ⟨K, hK⟩ : ∃ K, k + (ctL ctFail (l.take j) : Int) = K := ⟨_, rfl⟩
    have hK0 : 0 ≤ K := by omega
    have hK1 : K + ctFail x ≤ 1152921504606846976 := by omega
    rw [hK] at hget ⊢
    obtain ⟨ad, rfl, p0, p1, p2, p3⟩ := kFail_at (hr.below hb) j _ hget
    have q0 : wr.cell? (ad.add (j * 4)) = some (.int .i64 (K)) := p0
    have q1 : wr.cell? ⟨(ad.add (j * 4)).block, (ad.add (j * 4)).off + 1, none⟩ = some (.int .i64 (K + 1)) := p1
    have q2 : wr.cell? ⟨(ad.add (j * 4)).block, (ad.add (j * 4)).off + 2, none⟩ = some (.int .i64 (K + 1 + 1)) := p2
    have q3 : wr.cell? ⟨(ad.add (j * 4)).block, (ad.add (j * 4)).off + 3, none⟩ = some (.int .i64 (K + 1 + 1 + 1)) := p3
    have HK := Lib.hid hK
    unfold ctFail at hK1
    clear hget hle hx hK p0 p1 p2 p3
    have hb0 := Below.refl wr.heap.size wr
    go_wp2
    go_roundw
    case rel => exact ⟨j + 1, by omega, by rw [hct.out, ← HK.out]; simp [ctFail]; omega, by go_num, bl_step hb hb0⟩
    case measure => simp [intOf]; omega
end Go.Proofs.YticlknijmnddeaaGreat.Dat
