/- The laws' own functions over FOp. Written by a program (recgen.py). -/
import Derived.Test.YthinhlcfpaaldaaGreatK4
namespace Go.Proofs.YthinhlcfpaaldaaGreat.Dat
open Go Go.RowKit Go.Proofs.YthinhlcfpaaldaaGreat.Mem
set_option linter.unusedVariables false
set_option linter.unusedSimpArgs false
structure DFOp where
  op : Int
  d : Int
  a : Int
  b : Int
  x : Int
  f : Int
  p : Int
  v : DValue
def zFOp : DFOp := ⟨0, 0, 0, 0, 0, 0, 0, zValue⟩
def kFOp : Knd DFOp := Knd.iso (Knd.pair (Knd.int .i64) (Knd.pair (Knd.int .i64) (Knd.pair (Knd.int .i64) (Knd.pair (Knd.int .i64) (Knd.pair (Knd.int .i64) (Knd.pair (Knd.int .i64) (Knd.pair (Knd.int .i64) kValue))))))) (fun x => (x.op, x.d, x.a, x.b, x.x, x.f, x.p, x.v))
/-- What is handed in meets this. -/
def VFOp (x : DFOp) : Prop := (Lit.int .i64 x.op).wf = true ∧ (Lit.int .i64 x.d).wf = true ∧ (Lit.int .i64 x.a).wf = true ∧ (Lit.int .i64 x.b).wf = true ∧ (Lit.int .i64 x.x).wf = true ∧ (Lit.int .i64 x.f).wf = true ∧ (Lit.int .i64 x.p).wf = true ∧ VValue x.v
theorem kFOp_K {w : World} {x : DFOp} {cs : List Value} : kFOp.K w x cs ↔ cs = [.int .i64 x.op, .int .i64 x.d, .int .i64 x.a, .int .i64 x.b, .int .i64 x.x, .int .i64 x.f, .int .i64 x.p, .int .i64 x.v.k, .int .i64 x.v.n, .string x.v.s] := by
  constructor
  · rintro ⟨_, _, rfl, rfl, ⟨_, _, rfl, rfl, ⟨_, _, rfl, rfl, ⟨_, _, rfl, rfl, ⟨_, _, rfl, rfl, ⟨_, _, rfl, rfl, ⟨_, _, rfl, rfl, h_v⟩⟩⟩⟩⟩⟩⟩
    have e_v := kValue_K.1 h_v
    subst e_v
    rfl
  · rintro rfl
    exact ⟨[.int .i64 x.op], [.int .i64 x.d, .int .i64 x.a, .int .i64 x.b, .int .i64 x.x, .int .i64 x.f, .int .i64 x.p, .int .i64 x.v.k, .int .i64 x.v.n, .string x.v.s], rfl, rfl, ⟨[.int .i64 x.d], [.int .i64 x.a, .int .i64 x.b, .int .i64 x.x, .int .i64 x.f, .int .i64 x.p, .int .i64 x.v.k, .int .i64 x.v.n, .string x.v.s], rfl, rfl, ⟨[.int .i64 x.a], [.int .i64 x.b, .int .i64 x.x, .int .i64 x.f, .int .i64 x.p, .int .i64 x.v.k, .int .i64 x.v.n, .string x.v.s], rfl, rfl, ⟨[.int .i64 x.b], [.int .i64 x.x, .int .i64 x.f, .int .i64 x.p, .int .i64 x.v.k, .int .i64 x.v.n, .string x.v.s], rfl, rfl, ⟨[.int .i64 x.x], [.int .i64 x.f, .int .i64 x.p, .int .i64 x.v.k, .int .i64 x.v.n, .string x.v.s], rfl, rfl, ⟨[.int .i64 x.f], [.int .i64 x.p, .int .i64 x.v.k, .int .i64 x.v.n, .string x.v.s], rfl, rfl, ⟨[.int .i64 x.p], [.int .i64 x.v.k, .int .i64 x.v.n, .string x.v.s], rfl, rfl, (kValue_K.2 rfl)⟩⟩⟩⟩⟩⟩⟩
theorem kFOp_at {w : World} {A : Option Addr} {m : Nat} {xs : List DFOp} (h : kFOp.Row w A m xs) (i : Nat) (x : DFOp) (hx : xs[i]? = some x) : ∃ (ad : Addr), A = some ad ∧ w.cell? (ad.add (i * 10)) = some (.int .i64 x.op) ∧ w.cell? ⟨(ad.add (i * 10)).block, (ad.add (i * 10)).off + 1, none⟩ = some (.int .i64 x.d) ∧ w.cell? ⟨(ad.add (i * 10)).block, (ad.add (i * 10)).off + 2, none⟩ = some (.int .i64 x.a) ∧ w.cell? ⟨(ad.add (i * 10)).block, (ad.add (i * 10)).off + 3, none⟩ = some (.int .i64 x.b) ∧ w.cell? ⟨(ad.add (i * 10)).block, (ad.add (i * 10)).off + 4, none⟩ = some (.int .i64 x.x) ∧ w.cell? ⟨(ad.add (i * 10)).block, (ad.add (i * 10)).off + 5, none⟩ = some (.int .i64 x.f) ∧ w.cell? ⟨(ad.add (i * 10)).block, (ad.add (i * 10)).off + 6, none⟩ = some (.int .i64 x.p) ∧ w.cell? ⟨(ad.add (i * 10)).block, (ad.add (i * 10)).off + 7, none⟩ = some (.int .i64 x.v.k) ∧ w.cell? ⟨(ad.add (i * 10)).block, (ad.add (i * 10)).off + 8, none⟩ = some (.int .i64 x.v.n) ∧ w.cell? ⟨(ad.add (i * 10)).block, (ad.add (i * 10)).off + 9, none⟩ = some (.string x.v.s) := by
  obtain ⟨ad, c, e, hK, hc0⟩ := h.get i x hx
  have hc : ∀ j u, c[j]? = some u → w.cell? (ad.add (i * 10 + j)) = some u := hc0
  obtain rfl := kFOp_K.1 hK
  exact ⟨ad, e, hc 0 _ rfl, (by rw [← add_field _ _ 1 (by omega)]; exact hc 1 _ rfl), (by rw [← add_field _ _ 2 (by omega)]; exact hc 2 _ rfl), (by rw [← add_field _ _ 3 (by omega)]; exact hc 3 _ rfl), (by rw [← add_field _ _ 4 (by omega)]; exact hc 4 _ rfl), (by rw [← add_field _ _ 5 (by omega)]; exact hc 5 _ rfl), (by rw [← add_field _ _ 6 (by omega)]; exact hc 6 _ rfl), (by rw [← add_field _ _ 7 (by omega)]; exact hc 7 _ rfl), (by rw [← add_field _ _ 8 (by omega)]; exact hc 8 _ rfl), (by rw [← add_field _ _ 9 (by omega)]; exact hc 9 _ rfl)⟩
def ctFOp (x : DFOp) : Nat := 10
def mkFOp (k : Int) (x : DFOp) : DFOp := { op := k, d := k + 1, a := k + 1 + 1, b := k + 1 + 1 + 1, x := k + 1 + 1 + 1 + 1, f := k + 1 + 1 + 1 + 1 + 1, p := k + 1 + 1 + 1 + 1 + 1 + 1, v := { k := k + 1 + 1 + 1 + 1 + 1 + 1 + 1, n := k + 1 + 1 + 1 + 1 + 1 + 1 + 1 + 1, s := mkText (k + 1 + 1 + 1 + 1 + 1 + 1 + 1 + 1 + 1) } }
theorem kFOp_Oi {w : World} {x : DFOp} {cs : List Value} {F : List Nat} : kFOp.O w x cs F ↔ cs = [.int .i64 x.op, .int .i64 x.d, .int .i64 x.a, .int .i64 x.b, .int .i64 x.x, .int .i64 x.f, .int .i64 x.p, .int .i64 x.v.k, .int .i64 x.v.n, .string x.v.s] ∧ F = [] := by
  constructor
  · rintro ⟨_, _, _, _, rfl, rfl, ⟨rfl, rfl⟩, ⟨_, _, _, _, rfl, rfl, ⟨rfl, rfl⟩, ⟨_, _, _, _, rfl, rfl, ⟨rfl, rfl⟩, ⟨_, _, _, _, rfl, rfl, ⟨rfl, rfl⟩, ⟨_, _, _, _, rfl, rfl, ⟨rfl, rfl⟩, ⟨_, _, _, _, rfl, rfl, ⟨rfl, rfl⟩, ⟨_, _, _, _, rfl, rfl, ⟨rfl, rfl⟩, h_v⟩⟩⟩⟩⟩⟩⟩
    obtain ⟨e1_v, e2_v⟩ := kValue_Oi.1 h_v
    subst e1_v
    subst e2_v
    exact ⟨rfl, rfl⟩
  · rintro ⟨rfl, rfl⟩
    have h : kFOp.O w x [.int .i64 x.op, .int .i64 x.d, .int .i64 x.a, .int .i64 x.b, .int .i64 x.x, .int .i64 x.f, .int .i64 x.p, .int .i64 x.v.k, .int .i64 x.v.n, .string x.v.s] (([] ++ ([] ++ ([] ++ ([] ++ ([] ++ ([] ++ ([] ++ [])))))))) := ⟨[.int .i64 x.op], [.int .i64 x.d, .int .i64 x.a, .int .i64 x.b, .int .i64 x.x, .int .i64 x.f, .int .i64 x.p, .int .i64 x.v.k, .int .i64 x.v.n, .string x.v.s], [], ([] ++ ([] ++ ([] ++ ([] ++ ([] ++ ([] ++ [])))))), rfl, by simp, ⟨rfl, rfl⟩, ⟨[.int .i64 x.d], [.int .i64 x.a, .int .i64 x.b, .int .i64 x.x, .int .i64 x.f, .int .i64 x.p, .int .i64 x.v.k, .int .i64 x.v.n, .string x.v.s], [], ([] ++ ([] ++ ([] ++ ([] ++ ([] ++ []))))), rfl, by simp, ⟨rfl, rfl⟩, ⟨[.int .i64 x.a], [.int .i64 x.b, .int .i64 x.x, .int .i64 x.f, .int .i64 x.p, .int .i64 x.v.k, .int .i64 x.v.n, .string x.v.s], [], ([] ++ ([] ++ ([] ++ ([] ++ [])))), rfl, by simp, ⟨rfl, rfl⟩, ⟨[.int .i64 x.b], [.int .i64 x.x, .int .i64 x.f, .int .i64 x.p, .int .i64 x.v.k, .int .i64 x.v.n, .string x.v.s], [], ([] ++ ([] ++ ([] ++ []))), rfl, by simp, ⟨rfl, rfl⟩, ⟨[.int .i64 x.x], [.int .i64 x.f, .int .i64 x.p, .int .i64 x.v.k, .int .i64 x.v.n, .string x.v.s], [], ([] ++ ([] ++ [])), rfl, by simp, ⟨rfl, rfl⟩, ⟨[.int .i64 x.f], [.int .i64 x.p, .int .i64 x.v.k, .int .i64 x.v.n, .string x.v.s], [], ([] ++ []), rfl, by simp, ⟨rfl, rfl⟩, ⟨[.int .i64 x.p], [.int .i64 x.v.k, .int .i64 x.v.n, .string x.v.s], [], [], rfl, by simp, ⟨rfl, rfl⟩, (kValue_Oi.2 ⟨rfl, rfl⟩)⟩⟩⟩⟩⟩⟩⟩
    simpa using h
def msFOp (x : DFOp) : Nat := msValue x.v
/-- What a small measure gives. -/
def MFOp (x : DFOp) : Prop := MValue x.v
theorem MFOp_of {x : DFOp} (h : msFOp x ≤ 1048576) : MFOp x := by
  unfold msFOp at h
  try simp only [sumOf] at h
  unfold MFOp
  exact MValue_of (by omega)
set_option maxHeartbeats 4000000 in
set_option maxRecDepth 100000 in
theorem szFOp_c (x : DFOp) (left : Int) (w : World) (hV : VFOp x) (h0 : 0 ≤ left) (h1 : left ≤ 1048576) : Calls Tryz.prog 126 #[.agg #[.int .i64 x.op, .int .i64 x.d, .int .i64 x.a, .int .i64 x.b, .int .i64 x.x, .int .i64 x.f, .int .i64 x.p, .int .i64 x.v.k, .int .i64 x.v.n, .string x.v.s], .int .i64 left] w fun e w' => e = .returned (.int .i64 (lft (msFOp x) left)) ∧ Below w.heap.size w w' := by
  have hS := (St.start w).made (.cells #[.int .i64 x.op, .int .i64 x.d, .int .i64 x.a, .int .i64 x.b, .int .i64 x.x, .int .i64 x.f, .int .i64 x.p, .int .i64 x.v.k, .int .i64 x.v.n, .string x.v.s] 188 (0, 0))
  by_cases k0 : ((msValue x.v : Nat) : Int) ≤ left
  rotate_left
  · skip
    have C0 := szValue_c   x.v left
    rw [lft_gt (by omega)] at C0
    have HE := Lib.hid (show (-1 : Int) = lft (msFOp x) left by unfold msFOp; rw [lft_gt (by omega)])
    go_enter Tryz.func126, Tryz.ntmps126
    go_wp2_with fail
    refine (C0 _ hV.2.2.2.2.2.2.2 (by omega) (by omega)).mono ?_
    rintro e w1 ⟨rfl, hb⟩
    replace hS := hS.step hb
    have xb := hS.cell 0 rfl
    have yb := hS.blt 0 rfl
    clear hb
    go_wp2
    go_ret
    exact ⟨ret_int HE.out, hS.bel⟩
  have C0 := szValue_c   x.v left
  rw [lft_le k0] at C0
  have g0 : 0 ≤ left - (msValue x.v : Int) := by omega
  have HE := Lib.hid (show left - (msValue x.v : Int) = lft (msFOp x) left by unfold msFOp; rw [lft_le (by omega)])
  go_enter Tryz.func126, Tryz.ntmps126
  go_wp2_with fail
  refine (C0 _ hV.2.2.2.2.2.2.2 (by omega) (by omega)).mono ?_
  rintro e w1 ⟨rfl, hb⟩
  replace hS := hS.step hb
  have xb := hS.cell 0 rfl
  have yb := hS.blt 0 rfl
  clear hb
  go_wp2
  go_ret
  exact ⟨ret_int HE.out, hS.bel⟩
set_option maxHeartbeats 4000000 in
set_option maxRecDepth 100000 in
theorem szFOpS_c (A : Option Addr) (c : Nat) (l : List DFOp) (left : Int) (w : World) (hr : kFOp.Row w A l.length l) (hm : l.length ≤ maxLen) (hv : ∀ x ∈ l, VFOp x) (h0 : 0 ≤ left) (h1 : left ≤ 1048576) : Calls Tryz.prog 56 #[.slice A l.length c, .int .i64 left] w fun e w' => e = .returned (.int .i64 (lft (sumOf msFOp l) left)) ∧ Below w.heap.size w w' := by
  unfold maxLen at hm
  by_cases h : (l.length : Int) ≤ left
  · have h2 : 0 ≤ left - (l.length : Int) := by omega
    go_enter Tryz.func56, Tryz.ntmps56
    go_wp2
    go_loopw [1, 5] (fun u i wr => ∃ k s : Nat, k ≤ l.length ∧ i = .int .i64 k ∧ Hid (s = ((l.take k).map msFOp).sum) ∧ u = .int .i64 (left - l.length - s) ∧ 0 ≤ left - l.length - s ∧ Below w.heap.size w wr) (fun _ i _ => l.length - (intOf i).toNat)
    case atStart => exact ⟨0, 0, by omega, rfl, rfl, by simp, by simpa using h2, Below.refl _ _⟩
    case round =>
      obtain ⟨k, s, hk, rfl, hs, rfl, hp, hb⟩ := hrel
      by_cases hlt : k < l.length
      · obtain ⟨x, hx⟩ := get_ex l k hlt
        have hV := hv x (List.mem_of_getElem? hx)
        have hsn := sum_snoc msFOp l k x hx
        have hle := sum_le msFOp l (k + 1)
        obtain ⟨ad, rfl, q0, q1, q2, q3, q4, q5, q6, q7, q8, q9⟩ := kFOp_at (hr.below hb) k x hx
        have HX := Lib.hid hx
        clear hx
        have C := szFOp_c   x (left - l.length - s)
        have HV := Lib.hid hV
        clear hV
        by_cases hf : (msFOp x : Int) ≤ left - l.length - s
        · have HS : Hid (s + msFOp x = ((l.take (k + 1)).map msFOp).sum) := Lib.hid (by rw [hsn, ← hs.out])
          have e : lft (msFOp x) (left - l.length - s) = left - l.length - ((s + msFOp x : Nat) : Int) := by simp [lft, hf]; omega
          rw [e] at C
          have hp2 : 0 ≤ left - (l.length : Int) - ((s + msFOp x : Nat) : Int) := by omega
          clear hsn hle hf e
          generalize s + msFOp x = s2 at C HS hp2
          go_wp2_with fail
          refine (C _ HV.out (by omega) (by omega)).mono ?_
          rintro e w' ⟨rfl, hb2⟩
          go_wp2
          go_roundw
          case rel => exact ⟨k + 1, s2, by omega, by go_num, HS, rfl, hp2, bl9⟩
          case measure => simp [intOf]; omega
        · have e : lft (msFOp x) (left - l.length - s) = -1 := by simp [lft]; omega
          rw [e] at C
          have hend : lft (sumOf msFOp l) left = -1 := by
            have h3 := hs.out
            simp [lft, sumOf]
            omega
          have HE := Lib.hid hend
          clear hsn hle e hend
          go_wp2_with fail
          refine (C _ HV.out (by omega) (by omega)).mono ?_
          rintro e w' ⟨rfl, hb2⟩
          go_wp2
          go_ret
          exact ⟨ret_int HE.out.symm, bl9⟩
      · have hend : lft (sumOf msFOp l) left = left - l.length - s := by
          have h3 := hs.out
          rw [List.take_of_length_le (by omega)] at h3
          simp only [lft, sumOf, ← h3]
          rw [if_pos (by omega)]
          omega
        have HE := Lib.hid hend
        clear hend
        go_wp2
        go_ret
        exact ⟨ret_int HE.out.symm, hb⟩
  · have h2 : left - (l.length : Int) < 0 := by omega
    go_enter Tryz.func56, Tryz.ntmps56
    go_wp2
    go_ret
    exact ⟨by simp [lft, sumOf]; omega, Below.refl _ _⟩
theorem infoFOp : (Tryz.prog.info? 164).map (fun i => (i.zero, i.size, i.bytes)) = some (some (.agg #[.int .i64 0, .int .i64 0, .int .i64 0, .int .i64 0, .int .i64 0, .int .i64 0, .int .i64 0, .int .i64 0, .int .i64 0, .string (⟨#[]⟩ : ByteArray)]), 10, 88) := by kernel_rfl
set_option maxHeartbeats 4000000 in
set_option maxRecDepth 100000 in
theorem toFOp_c (x : DFOp) (w : World) : Calls Tryz.prog 131 #[.agg #[.int .i64 x.op, .int .i64 x.d, .int .i64 x.a, .int .i64 x.b, .int .i64 x.x, .int .i64 x.f, .int .i64 x.p, .int .i64 x.v.k, .int .i64 x.v.n, .string x.v.s]] w fun e w' => e = .returned (.agg #[.int .i64 x.op, .int .i64 x.d, .int .i64 x.a, .int .i64 x.b, .int .i64 x.x, .int .i64 x.f, .int .i64 x.p, .int .i64 x.v.k, .int .i64 x.v.n, .string x.v.s]) ∧ Below w.heap.size w w' := by
  go_enter Tryz.func131, Tryz.ntmps131
  go_wp2_with fail
  refine (toValue_c x.v _).mono ?_
  rintro e w1 ⟨rfl, hb1⟩
  obtain ⟨hc1, hf1⟩ := bcell hb1
  have hz1 := hb1.size
  simp at hz1
  have y10 : w.heap.size < w1.heap.size := by omega
  have y11 : w.heap.size + 1 < w1.heap.size := by omega
  have y12 : w.heap.size + 1 + 1 < w1.heap.size := by omega
  go_wp2
  refine bodyPost_ret (v := .agg #[.int .i64 x.op, .int .i64 x.d, .int .i64 x.a, .int .i64 x.b, .int .i64 x.x, .int .i64 x.f, .int .i64 x.p, .int .i64 x.v.k, .int .i64 x.v.n, .string x.v.s]) (by simp [results, Tryz.results131, go_sem, true_and, *]) rfl ⟨rfl, bl9⟩
theorem zFOp_O (w : World) : kFOp.O w zFOp (Value.agg #[.int .i64 0, .int .i64 0, .int .i64 0, .int .i64 0, .int .i64 0, .int .i64 0, .int .i64 0, .int .i64 0, .int .i64 0, .string (⟨#[]⟩ : ByteArray)]).cells.toList [] := kFOp_Oi.2 ⟨rfl, rfl⟩
set_option maxHeartbeats 4000000 in
set_option maxRecDepth 100000 in
theorem toFOpS_c (A : Option Addr) (c : Nat) (l : List DFOp) (w : World) (hr : kFOp.Row w A l.length l) (hm : l.length ≤ 1048576 ∧ ∀ y ∈ l, MFOp y) : Calls Tryz.prog 62 #[.slice A l.length c] w (NewRow kFOp 164 l w) := by
  obtain ⟨hm, hM⟩ := hm
  go_enter Tryz.func62, Tryz.ntmps62
  go_wp2_with (refine Knd.wp_made kFOp rfl _ _ _ rfl l.length rfl rfl 164 Tryz.underlying38 (.agg #[.int .i64 0, .int .i64 0, .int .i64 0, .int .i64 0, .int .i64 0, .int .i64 0, .int .i64 0, .int .i64 0, .int .i64 0, .string (⟨#[]⟩ : ByteArray)]) 88 infoFOp rfl (by decide) (by omega) zFOp zFOp_O (by omega) ?_; rintro g w1 hg ho hb hz; have HG := Lib.hid hg; clear hg)
  have hg0 : w.heap.size ≤ g := Nat.le_of_eq HG.out.symm
  go_loopw [4] (fun i wr => ∃ k : Nat, k ≤ l.length ∧ i = .int .i64 k ∧ kFOp.OwnF 164 wr (.slice (some ⟨g, 0, none⟩) l.length l.length) (l.take k ++ List.replicate (l.length - k) zFOp) (List.replicate l.length []) ∧ Below w.heap.size w wr) (fun i _ => l.length - (intOf i).toNat)
  case atStart => exact ⟨0, by omega, rfl, by simpa using ho, hb⟩
  case round =>
    obtain ⟨k, hk, rfl, ho, hb⟩ := hrel
    by_cases hlt : k < l.length
    · obtain ⟨x, hx⟩ := get_exT l k hlt
      obtain ⟨ad, rfl, q0, q1, q2, q3, q4, q5, q6, q7, q8, q9⟩ := kFOp_at (hr.below hb) k x hx
      have hMx := hM x (List.mem_of_getElem? hx)
      have hp := part_set l zFOp x k hx
      have hle : k < (l.take k ++ List.replicate (l.length - k) zFOp).length := by simp; omega
      have hlen : (l.take k ++ List.replicate (l.length - k) zFOp).length = l.length := by simp; omega
      have HP := Lib.hid hp
      have HX := Lib.hid hx
      have HL := Lib.hid hlen
      clear hp hx hlen
      have C := toFOp_c x wr
      go_wp2_with fail
      refine C.mono ?_
      rintro e w' ⟨rfl, hb2⟩
      have ho2 := ho.below hb2
      obtain ⟨u0, s0⟩ := ho2.cell (k * 10) (by rw [HL.out]; show _ < l.length * 10; omega)
      have f0 := ho2.free (k * 10)
      obtain ⟨u1, s1⟩ := ho2.cell (k * 10 + 1) (by rw [HL.out]; show _ < l.length * 10; omega)
      have f1 := ho2.free (k * 10 + 1)
      obtain ⟨u2, s2⟩ := ho2.cell (k * 10 + 2) (by rw [HL.out]; show _ < l.length * 10; omega)
      have f2 := ho2.free (k * 10 + 2)
      obtain ⟨u3, s3⟩ := ho2.cell (k * 10 + 3) (by rw [HL.out]; show _ < l.length * 10; omega)
      have f3 := ho2.free (k * 10 + 3)
      obtain ⟨u4, s4⟩ := ho2.cell (k * 10 + 4) (by rw [HL.out]; show _ < l.length * 10; omega)
      have f4 := ho2.free (k * 10 + 4)
      obtain ⟨u5, s5⟩ := ho2.cell (k * 10 + 5) (by rw [HL.out]; show _ < l.length * 10; omega)
      have f5 := ho2.free (k * 10 + 5)
      obtain ⟨u6, s6⟩ := ho2.cell (k * 10 + 6) (by rw [HL.out]; show _ < l.length * 10; omega)
      have f6 := ho2.free (k * 10 + 6)
      obtain ⟨u7, s7⟩ := ho2.cell (k * 10 + 7) (by rw [HL.out]; show _ < l.length * 10; omega)
      have f7 := ho2.free (k * 10 + 7)
      obtain ⟨u8, s8⟩ := ho2.cell (k * 10 + 8) (by rw [HL.out]; show _ < l.length * 10; omega)
      have f8 := ho2.free (k * 10 + 8)
      obtain ⟨u9, s9⟩ := ho2.cell (k * 10 + 9) (by rw [HL.out]; show _ < l.length * 10; omega)
      have f9 := ho2.free (k * 10 + 9)
      go_wp2
      go_roundw
      case rel =>
        refine ⟨k + 1, by omega, by go_num, ?_, ?_⟩
        · have h1 := ho2.put k hle [.int .i64 x.op, .int .i64 x.d, .int .i64 x.a, .int .i64 x.b, .int .i64 x.x, .int .i64 x.f, .int .i64 x.p, .int .i64 x.v.k, .int .i64 x.v.n, .string x.v.s] x [] (kFOp_Oi.2 ⟨rfl, rfl⟩) (by simp) (by rw [rep_flat]; simp)
          rw [HP.out, rep_set] at h1
          exact h1
        · exact bl9
      case measure => simp [intOf]; omega
    · obtain rfl : k = l.length := by omega
      go_wp2
      go_ret
      have h1 := ho.own
      rw [List.take_length, Nat.sub_self, List.replicate_zero, List.append_nil, rep_flat] at h1
      exact ⟨_, _, rfl, h1, by simp [Value.ownBlock], by simp [Value.ownBlock]; rw [HG.out]; exact Nat.le_refl _, hb⟩
set_option maxHeartbeats 4000000 in
set_option maxRecDepth 100000 in
theorem eqFOp_c (x : DFOp) (w : World) : Calls Tryz.prog 138 #[.agg #[.int .i64 x.op, .int .i64 x.d, .int .i64 x.a, .int .i64 x.b, .int .i64 x.x, .int .i64 x.f, .int .i64 x.p, .int .i64 x.v.k, .int .i64 x.v.n, .string x.v.s], .agg #[.int .i64 x.op, .int .i64 x.d, .int .i64 x.a, .int .i64 x.b, .int .i64 x.x, .int .i64 x.f, .int .i64 x.p, .int .i64 x.v.k, .int .i64 x.v.n, .string x.v.s]] w fun e w' => e = .returned (.bool true) ∧ Below w.heap.size w w' := by
  have hS := ((St.start w).made (.cells #[.int .i64 x.op, .int .i64 x.d, .int .i64 x.a, .int .i64 x.b, .int .i64 x.x, .int .i64 x.f, .int .i64 x.p, .int .i64 x.v.k, .int .i64 x.v.n, .string x.v.s] 164 (0, 0))).madeAt (.cells #[.int .i64 x.op, .int .i64 x.d, .int .i64 x.a, .int .i64 x.b, .int .i64 x.x, .int .i64 x.f, .int .i64 x.p, .int .i64 x.v.k, .int .i64 x.v.n, .string x.v.s] 164 (0, 0)) (w.heap.size + 1) (by simp)
  go_enter Tryz.func138, Tryz.ntmps138
  go_wp2_with fail
  refine (eqValue_c x.v _).mono ?_
  rintro e w1 ⟨rfl, hb⟩
  replace hS := hS.step hb
  have xb := hS.cell 0 rfl
  have xa := hS.cell 1 rfl
  have yb := hS.blt 0 rfl
  have ya := hS.blt 1 rfl
  clear hb
  go_wp2
  go_ret
  exact ⟨rfl, hS.bel⟩
set_option maxHeartbeats 4000000 in
set_option maxRecDepth 100000 in
theorem eqFOpS_c (A B : Option Addr) (c c' : Nat) (l : List DFOp) (w : World) (hr : kFOp.Row w A l.length l) (hr' : kFOp.Row w B l.length l) : Calls Tryz.prog 69 #[.slice A l.length c, .slice B l.length c'] w fun e w' => e = .returned (.bool true) ∧ Below w.heap.size w w' := by
  have hm := hr.2.1
  go_enter Tryz.func69, Tryz.ntmps69
  go_wp2
  go_loopw [5] (fun i wr => ∃ k : Nat, k ≤ l.length ∧ i = .int .i64 k ∧ Below w.heap.size w wr) (fun i _ => l.length - (intOf i).toNat)
  case atStart => exact ⟨0, by omega, rfl, Below.refl _ _⟩
  case round =>
    obtain ⟨k, hk, rfl, hb⟩ := hrel
    by_cases hlt : k < l.length
    · obtain ⟨x, hx⟩ := get_exE l k hlt
      obtain ⟨ady, rfl, q0, q1, q2, q3, q4, q5, q6, q7, q8, q9⟩ := kFOp_at (hr.below hb) k x hx
      obtain ⟨adz, rfl, p0, p1, p2, p3, p4, p5, p6, p7, p8, p9⟩ := kFOp_at (hr'.below hb) k x hx
      clear hx
      go_wp2
      go_region_held3 (fun w' => w'.cell? (ady.add (k * 10)) = some (.int .i64 x.op) ∧ w'.cell? ⟨(ady.add (k * 10)).block, (ady.add (k * 10)).off + 1, none⟩ = some (.int .i64 x.d) ∧ w'.cell? ⟨(ady.add (k * 10)).block, (ady.add (k * 10)).off + 2, none⟩ = some (.int .i64 x.a) ∧ w'.cell? ⟨(ady.add (k * 10)).block, (ady.add (k * 10)).off + 3, none⟩ = some (.int .i64 x.b) ∧ w'.cell? ⟨(ady.add (k * 10)).block, (ady.add (k * 10)).off + 4, none⟩ = some (.int .i64 x.x) ∧ w'.cell? ⟨(ady.add (k * 10)).block, (ady.add (k * 10)).off + 5, none⟩ = some (.int .i64 x.f) ∧ w'.cell? ⟨(ady.add (k * 10)).block, (ady.add (k * 10)).off + 6, none⟩ = some (.int .i64 x.p) ∧ w'.cell? ⟨(ady.add (k * 10)).block, (ady.add (k * 10)).off + 7, none⟩ = some (.int .i64 x.v.k) ∧ w'.cell? ⟨(ady.add (k * 10)).block, (ady.add (k * 10)).off + 8, none⟩ = some (.int .i64 x.v.n) ∧ w'.cell? ⟨(ady.add (k * 10)).block, (ady.add (k * 10)).off + 9, none⟩ = some (.string x.v.s) ∧ w'.cell? (adz.add (k * 10)) = some (.int .i64 x.op) ∧ w'.cell? ⟨(adz.add (k * 10)).block, (adz.add (k * 10)).off + 1, none⟩ = some (.int .i64 x.d) ∧ w'.cell? ⟨(adz.add (k * 10)).block, (adz.add (k * 10)).off + 2, none⟩ = some (.int .i64 x.a) ∧ w'.cell? ⟨(adz.add (k * 10)).block, (adz.add (k * 10)).off + 3, none⟩ = some (.int .i64 x.b) ∧ w'.cell? ⟨(adz.add (k * 10)).block, (adz.add (k * 10)).off + 4, none⟩ = some (.int .i64 x.x) ∧ w'.cell? ⟨(adz.add (k * 10)).block, (adz.add (k * 10)).off + 5, none⟩ = some (.int .i64 x.f) ∧ w'.cell? ⟨(adz.add (k * 10)).block, (adz.add (k * 10)).off + 6, none⟩ = some (.int .i64 x.p) ∧ w'.cell? ⟨(adz.add (k * 10)).block, (adz.add (k * 10)).off + 7, none⟩ = some (.int .i64 x.v.k) ∧ w'.cell? ⟨(adz.add (k * 10)).block, (adz.add (k * 10)).off + 8, none⟩ = some (.int .i64 x.v.n) ∧ w'.cell? ⟨(adz.add (k * 10)).block, (adz.add (k * 10)).off + 9, none⟩ = some (.string x.v.s) ∧ Below wr.heap.size wr w') ((refine ⟨?_, ?_, ?_, ?_, ?_, ?_, ?_, ?_, ?_, ?_, ?_, ?_, ?_, ?_, ?_, ?_, ?_, ?_, ?_, ?_, ?_⟩ <;> first | assumption | (go_keep; done) | exact bl9)) (first | (go_at_call 138; refine (eqFOp_c _ _).mono ?_; rintro e w' ⟨rfl, hb2⟩; have q0 := kept hb2 q0; have q1 := kept hb2 q1; have q2 := kept hb2 q2; have q3 := kept hb2 q3; have q4 := kept hb2 q4; have q5 := kept hb2 q5; have q6 := kept hb2 q6; have q7 := kept hb2 q7; have q8 := kept hb2 q8; have q9 := kept hb2 q9; have p0 := kept hb2 p0; have p1 := kept hb2 p1; have p2 := kept hb2 p2; have p3 := kept hb2 p3; have p4 := kept hb2 p4; have p5 := kept hb2 p5; have p6 := kept hb2 p6; have p7 := kept hb2 p7; have p8 := kept hb2 p8; have p9 := kept hb2 p9; have hW2 : Below wr.heap.size wr w' := bl9))
      go_wp2
      go_roundw
      case rel => exact ⟨k + 1, by omega, by go_num, bl9⟩
      case measure => simp [intOf]; omega
    · go_wp2
      go_ret
      exact ⟨rfl, hb⟩
theorem ctOneFOp (x : DFOp) : ctFOp x ≤ 10 * (msFOp x + 1) := by
  have m_v := Nat.zero_le (msValue x.v)
  unfold ctFOp msFOp
  try simp only [sumOf] at *
  omega
theorem ctLeFOp (l : List DFOp) : ctL ctFOp l ≤ 10 * sumOf msFOp l := ctL_le2 10 ctOneFOp l
set_option maxHeartbeats 4000000 in
set_option maxRecDepth 100000 in
theorem markFOpS_c (v : Value) (l : List DFOp) (k : Int) (F : List Nat) (w : World) (h : kFOp.Own 164 w v l F) (hnd : F.Nodup) (h0 : 0 ≤ k) (h1 : k + ctL ctFOp l ≤ 1152921504606846976) (hm : l.length ≤ 1048576 ∧ ∀ y ∈ l, MFOp y) : Calls Tryz.prog 73 #[v, .int .i64 k] w fun e w' => e = .returned (.int .i64 (k + ctL ctFOp l)) ∧ kFOp.Own 164 w' v (mkL mkFOp ctFOp k l) F ∧ But F w w' := by
  have hlm : l.length ≤ 1048576 := hm.1
  by_cases hn : 0 < l.length
  rotate_left
  · have e : l = [] := List.eq_nil_of_length_eq_zero (by omega)
    subst e
    obtain ⟨A, c, rfl, _, _⟩ := h.row
    go_enter Tryz.func73, Tryz.ntmps73
    go_wp2
    go_loopw [1, 5] (fun u i wr => u = .int .i64 k ∧ i = .int .i64 0 ∧ w = wr) (fun _ i _ => 0)
    case atStart => exact ⟨rfl, rfl, rfl⟩
    case round =>
      obtain ⟨rfl, rfl, rfl⟩ := hrel
      go_wp2
      go_ret
      exact ⟨by simp [ctL], h, But.refl _ _⟩
  obtain ⟨g, c, Fs, inner, rfl, hFe, hA0⟩ := h.toAt hnd hn
  subst hFe
  clear h hnd
  go_enter Tryz.func73, Tryz.ntmps73
  go_wp2
  go_loopw [1, 5] (fun u i wr => ∃ (j : Nat) (inner : List Value), j ≤ l.length ∧ u = .int .i64 (k + ctL ctFOp (l.take j)) ∧ i = .int .i64 j ∧ kFOp.At 164 wr g l.length c (upto mkFOp ctFOp k l j) Fs inner ∧ But (g :: Fs.flatten) w wr) (fun _ i _ => l.length - (intOf i).toNat)
  case atStart => exact ⟨0, inner, by omega, by simp [ctL], rfl, by rw [upto_0]; exact hA0, But.refl _ _⟩
  case round =>
    clear hA0
    obtain ⟨j, inner, hj, rfl, rfl, hA, hB⟩ := hrel
    by_cases hlt : j < l.length
    rotate_left
    · obtain rfl : j = l.length := by omega
      rw [upto_all] at hA
      rw [List.take_length]
      go_wp2
      go_ret
      exact ⟨rfl, hA.own, hB⟩
    obtain ⟨x, hx⟩ := get_exU l j hlt
    have hset := Lib.hid (upto_set mkFOp ctFOp k l j x hx)
    have hct := Lib.hid (ctL_snoc ctFOp l j x hx)
    have hle := ctL_mem ctFOp l j x hx
    have hMx := hm.2 x (List.mem_of_getElem? hx)
    have hul : j < (upto mkFOp ctFOp k l j).length := by rw [upto_len]; exact hlt
    obtain ⟨Fj, hFj, hO, _⟩ := hA.elem j x (upto_get mkFOp ctFOp k l j x hx)
    obtain ⟨hseg, hFn⟩ := kFOp_Oi.1 hO
    have hFn := hFn.symm
    subst hFn
    obtain ⟨K, hK⟩ : ∃ K, k + (ctL ctFOp (l.take j) : Int) = K := ⟨_, rfl⟩
    have hK0 : 0 ≤ K := by omega
    have hK1 : K + ctFOp x ≤ 1152921504606846976 := by omega
    rw [hK]
    have HK := Lib.hid hK
    unfold ctFOp at hK1
    have HUL := Lib.hid hul
    have HFJ := Lib.hid hFj
    clear hK hle hO hx
    have c0 : wr.cell? ⟨g, j * 10, none⟩ = some (.int .i64 (x.op)) := hA.cellj j 0 HUL.out hseg rfl
    have f0 : wr.frozen? ⟨g, j * 10, none⟩ = false := hA.free _
    have c1 : wr.cell? ⟨g, j * 10 + 1, none⟩ = some (.int .i64 (x.d)) := hA.cellj j 1 HUL.out hseg rfl
    have f1 : wr.frozen? ⟨g, j * 10 + 1, none⟩ = false := hA.free _
    have c2 : wr.cell? ⟨g, j * 10 + 2, none⟩ = some (.int .i64 (x.a)) := hA.cellj j 2 HUL.out hseg rfl
    have f2 : wr.frozen? ⟨g, j * 10 + 2, none⟩ = false := hA.free _
    have c3 : wr.cell? ⟨g, j * 10 + 3, none⟩ = some (.int .i64 (x.b)) := hA.cellj j 3 HUL.out hseg rfl
    have f3 : wr.frozen? ⟨g, j * 10 + 3, none⟩ = false := hA.free _
    have c4 : wr.cell? ⟨g, j * 10 + 4, none⟩ = some (.int .i64 (x.x)) := hA.cellj j 4 HUL.out hseg rfl
    have f4 : wr.frozen? ⟨g, j * 10 + 4, none⟩ = false := hA.free _
    have c5 : wr.cell? ⟨g, j * 10 + 5, none⟩ = some (.int .i64 (x.f)) := hA.cellj j 5 HUL.out hseg rfl
    have f5 : wr.frozen? ⟨g, j * 10 + 5, none⟩ = false := hA.free _
    have c6 : wr.cell? ⟨g, j * 10 + 6, none⟩ = some (.int .i64 (x.p)) := hA.cellj j 6 HUL.out hseg rfl
    have f6 : wr.frozen? ⟨g, j * 10 + 6, none⟩ = false := hA.free _
    have c7 : wr.cell? ⟨g, j * 10 + 7, none⟩ = some (.int .i64 (x.v.k)) := hA.cellj j 7 HUL.out hseg rfl
    have f7 : wr.frozen? ⟨g, j * 10 + 7, none⟩ = false := hA.free _
    have c8 : wr.cell? ⟨g, j * 10 + 8, none⟩ = some (.int .i64 (x.v.n)) := hA.cellj j 8 HUL.out hseg rfl
    have f8 : wr.frozen? ⟨g, j * 10 + 8, none⟩ = false := hA.free _
    have hP1 := hA.put j 0 HUL.out (by decide) (.int .i64 (K)) ({ op := K, d := x.d, a := x.a, b := x.b, x := x.x, f := x.f, p := x.p, v := { k := x.v.k, n := x.v.n, s := x.v.s } } : DFOp) [] HFJ.out (by rw [hseg]; exact (kFOp_Oi.2 ⟨rfl, rfl⟩))
    have hseg1 := (Knd.At.seg_set_same (d := kFOp) _ j 0 (.int .i64 (K)) (by decide)).trans (congrArg (fun z => z.set 0 (.int .i64 (K))) hseg)
    have hB1 := Knd.At.but_put hB (j * 10 + 0) (.int .i64 (K))
    have hP2 := hP1.put j 1 (by rw [List.length_set]; exact HUL.out) (by decide) (.int .i64 (K + 1)) ({ op := K, d := K + 1, a := x.a, b := x.b, x := x.x, f := x.f, p := x.p, v := { k := x.v.k, n := x.v.n, s := x.v.s } } : DFOp) [] HFJ.out (by rw [hseg1]; exact (kFOp_Oi.2 ⟨rfl, rfl⟩))
    rw [List.set_set] at hP2
    have hseg2 := (Knd.At.seg_set_same (d := kFOp) _ j 1 (.int .i64 (K + 1)) (by decide)).trans (congrArg (fun z => z.set 1 (.int .i64 (K + 1))) hseg1)
    have hB2 := Knd.At.but_put hB1 (j * 10 + 1) (.int .i64 (K + 1))
    have hP3 := hP2.put j 2 (by rw [List.length_set]; exact HUL.out) (by decide) (.int .i64 (K + 1 + 1)) ({ op := K, d := K + 1, a := K + 1 + 1, b := x.b, x := x.x, f := x.f, p := x.p, v := { k := x.v.k, n := x.v.n, s := x.v.s } } : DFOp) [] HFJ.out (by rw [hseg2]; exact (kFOp_Oi.2 ⟨rfl, rfl⟩))
    rw [List.set_set] at hP3
    have hseg3 := (Knd.At.seg_set_same (d := kFOp) _ j 2 (.int .i64 (K + 1 + 1)) (by decide)).trans (congrArg (fun z => z.set 2 (.int .i64 (K + 1 + 1))) hseg2)
    have hB3 := Knd.At.but_put hB2 (j * 10 + 2) (.int .i64 (K + 1 + 1))
    have hP4 := hP3.put j 3 (by rw [List.length_set]; exact HUL.out) (by decide) (.int .i64 (K + 1 + 1 + 1)) ({ op := K, d := K + 1, a := K + 1 + 1, b := K + 1 + 1 + 1, x := x.x, f := x.f, p := x.p, v := { k := x.v.k, n := x.v.n, s := x.v.s } } : DFOp) [] HFJ.out (by rw [hseg3]; exact (kFOp_Oi.2 ⟨rfl, rfl⟩))
    rw [List.set_set] at hP4
    have hseg4 := (Knd.At.seg_set_same (d := kFOp) _ j 3 (.int .i64 (K + 1 + 1 + 1)) (by decide)).trans (congrArg (fun z => z.set 3 (.int .i64 (K + 1 + 1 + 1))) hseg3)
    have hB4 := Knd.At.but_put hB3 (j * 10 + 3) (.int .i64 (K + 1 + 1 + 1))
    have hP5 := hP4.put j 4 (by rw [List.length_set]; exact HUL.out) (by decide) (.int .i64 (K + 1 + 1 + 1 + 1)) ({ op := K, d := K + 1, a := K + 1 + 1, b := K + 1 + 1 + 1, x := K + 1 + 1 + 1 + 1, f := x.f, p := x.p, v := { k := x.v.k, n := x.v.n, s := x.v.s } } : DFOp) [] HFJ.out (by rw [hseg4]; exact (kFOp_Oi.2 ⟨rfl, rfl⟩))
    rw [List.set_set] at hP5
    have hseg5 := (Knd.At.seg_set_same (d := kFOp) _ j 4 (.int .i64 (K + 1 + 1 + 1 + 1)) (by decide)).trans (congrArg (fun z => z.set 4 (.int .i64 (K + 1 + 1 + 1 + 1))) hseg4)
    have hB5 := Knd.At.but_put hB4 (j * 10 + 4) (.int .i64 (K + 1 + 1 + 1 + 1))
    have hP6 := hP5.put j 5 (by rw [List.length_set]; exact HUL.out) (by decide) (.int .i64 (K + 1 + 1 + 1 + 1 + 1)) ({ op := K, d := K + 1, a := K + 1 + 1, b := K + 1 + 1 + 1, x := K + 1 + 1 + 1 + 1, f := K + 1 + 1 + 1 + 1 + 1, p := x.p, v := { k := x.v.k, n := x.v.n, s := x.v.s } } : DFOp) [] HFJ.out (by rw [hseg5]; exact (kFOp_Oi.2 ⟨rfl, rfl⟩))
    rw [List.set_set] at hP6
    have hseg6 := (Knd.At.seg_set_same (d := kFOp) _ j 5 (.int .i64 (K + 1 + 1 + 1 + 1 + 1)) (by decide)).trans (congrArg (fun z => z.set 5 (.int .i64 (K + 1 + 1 + 1 + 1 + 1))) hseg5)
    have hB6 := Knd.At.but_put hB5 (j * 10 + 5) (.int .i64 (K + 1 + 1 + 1 + 1 + 1))
    have hP7 := hP6.put j 6 (by rw [List.length_set]; exact HUL.out) (by decide) (.int .i64 (K + 1 + 1 + 1 + 1 + 1 + 1)) ({ op := K, d := K + 1, a := K + 1 + 1, b := K + 1 + 1 + 1, x := K + 1 + 1 + 1 + 1, f := K + 1 + 1 + 1 + 1 + 1, p := K + 1 + 1 + 1 + 1 + 1 + 1, v := { k := x.v.k, n := x.v.n, s := x.v.s } } : DFOp) [] HFJ.out (by rw [hseg6]; exact (kFOp_Oi.2 ⟨rfl, rfl⟩))
    rw [List.set_set] at hP7
    have hseg7 := (Knd.At.seg_set_same (d := kFOp) _ j 6 (.int .i64 (K + 1 + 1 + 1 + 1 + 1 + 1)) (by decide)).trans (congrArg (fun z => z.set 6 (.int .i64 (K + 1 + 1 + 1 + 1 + 1 + 1))) hseg6)
    have hB7 := Knd.At.but_put hB6 (j * 10 + 6) (.int .i64 (K + 1 + 1 + 1 + 1 + 1 + 1))
    have hP8 := hP7.put j 7 (by rw [List.length_set]; exact HUL.out) (by decide) (.int .i64 (K + 1 + 1 + 1 + 1 + 1 + 1 + 1)) ({ op := K, d := K + 1, a := K + 1 + 1, b := K + 1 + 1 + 1, x := K + 1 + 1 + 1 + 1, f := K + 1 + 1 + 1 + 1 + 1, p := K + 1 + 1 + 1 + 1 + 1 + 1, v := { k := K + 1 + 1 + 1 + 1 + 1 + 1 + 1, n := x.v.n, s := x.v.s } } : DFOp) [] HFJ.out (by rw [hseg7]; exact (kFOp_Oi.2 ⟨rfl, rfl⟩))
    rw [List.set_set] at hP8
    have hseg8 := (Knd.At.seg_set_same (d := kFOp) _ j 7 (.int .i64 (K + 1 + 1 + 1 + 1 + 1 + 1 + 1)) (by decide)).trans (congrArg (fun z => z.set 7 (.int .i64 (K + 1 + 1 + 1 + 1 + 1 + 1 + 1))) hseg7)
    have hB8 := Knd.At.but_put hB7 (j * 10 + 7) (.int .i64 (K + 1 + 1 + 1 + 1 + 1 + 1 + 1))
    have hP9 := hP8.put j 8 (by rw [List.length_set]; exact HUL.out) (by decide) (.int .i64 (K + 1 + 1 + 1 + 1 + 1 + 1 + 1 + 1)) ({ op := K, d := K + 1, a := K + 1 + 1, b := K + 1 + 1 + 1, x := K + 1 + 1 + 1 + 1, f := K + 1 + 1 + 1 + 1 + 1, p := K + 1 + 1 + 1 + 1 + 1 + 1, v := { k := K + 1 + 1 + 1 + 1 + 1 + 1 + 1, n := K + 1 + 1 + 1 + 1 + 1 + 1 + 1 + 1, s := x.v.s } } : DFOp) [] HFJ.out (by rw [hseg8]; exact (kFOp_Oi.2 ⟨rfl, rfl⟩))
    rw [List.set_set] at hP9
    have hseg9 := (Knd.At.seg_set_same (d := kFOp) _ j 8 (.int .i64 (K + 1 + 1 + 1 + 1 + 1 + 1 + 1 + 1)) (by decide)).trans (congrArg (fun z => z.set 8 (.int .i64 (K + 1 + 1 + 1 + 1 + 1 + 1 + 1 + 1))) hseg8)
    have hB9 := Knd.At.but_put hB8 (j * 10 + 8) (.int .i64 (K + 1 + 1 + 1 + 1 + 1 + 1 + 1 + 1))
    have HP := Lib.hid hP9
    have HG := Lib.hid hseg9
    have HBB := Lib.hid hB9
    try clear hA
    try clear hseg
    try clear hB
    try clear hP1
    try clear hP2
    try clear hP3
    try clear hP4
    try clear hP5
    try clear hP6
    try clear hP7
    try clear hP8
    try clear hP9
    try clear hseg1
    try clear hseg2
    try clear hseg3
    try clear hseg4
    try clear hseg5
    try clear hseg6
    try clear hseg7
    try clear hseg8
    try clear hseg9
    try clear hB1
    try clear hB2
    try clear hB3
    try clear hB4
    try clear hB5
    try clear hB6
    try clear hB7
    try clear hB8
    try clear hB9
    go_wp2_with fail
    refine (markText (K + 1 + 1 + 1 + 1 + 1 + 1 + 1 + 1 + 1) _ (by omega) (by omega)).mono ?_
    rintro e w10 ⟨rfl, hb10⟩
    have hP10 := HP.out.below hb10
    have hseg10 := HG.out
    have hB10 := HBB.out.trans (But.of_below hb10)
    try clear c0 f0
    try clear c1 f1
    try clear c2 f2
    try clear c3 f3
    try clear c4 f4
    try clear c5 f5
    try clear c6 f6
    try clear c7 f7
    try clear c8 f8
    try clear c9 f9
    clear HP HG HBB
    have c9 : w10.cell? ⟨g, j * 10 + 9, none⟩ = some (.string (x.v.s)) := hP10.cellj j 9 (by rw [List.length_set]; exact HUL.out) hseg10 rfl
    have f9 : w10.frozen? ⟨g, j * 10 + 9, none⟩ = false := hP10.free _
    have hP11 := hP10.put j 9 (by rw [List.length_set]; exact HUL.out) (by decide) (.string (mkText (K + 1 + 1 + 1 + 1 + 1 + 1 + 1 + 1 + 1))) ({ op := K, d := K + 1, a := K + 1 + 1, b := K + 1 + 1 + 1, x := K + 1 + 1 + 1 + 1, f := K + 1 + 1 + 1 + 1 + 1, p := K + 1 + 1 + 1 + 1 + 1 + 1, v := { k := K + 1 + 1 + 1 + 1 + 1 + 1 + 1, n := K + 1 + 1 + 1 + 1 + 1 + 1 + 1 + 1, s := mkText (K + 1 + 1 + 1 + 1 + 1 + 1 + 1 + 1 + 1) } } : DFOp) [] HFJ.out (by rw [hseg10]; exact (kFOp_Oi.2 ⟨rfl, rfl⟩))
    rw [List.set_set] at hP11
    have hseg11 := (Knd.At.seg_set_same (d := kFOp) _ j 9 (.string (mkText (K + 1 + 1 + 1 + 1 + 1 + 1 + 1 + 1 + 1))) (by decide)).trans (congrArg (fun z => z.set 9 (.string (mkText (K + 1 + 1 + 1 + 1 + 1 + 1 + 1 + 1 + 1)))) hseg10)
    have hB11 := Knd.At.but_put hB10 (j * 10 + 9) (.string (mkText (K + 1 + 1 + 1 + 1 + 1 + 1 + 1 + 1 + 1)))
    have HP := Lib.hid hP11
    have HG := Lib.hid hseg11
    have HBB := Lib.hid hB11
    try clear hA
    try clear hseg
    try clear hB
    try clear hP1
    try clear hP2
    try clear hP3
    try clear hP4
    try clear hP5
    try clear hP6
    try clear hP7
    try clear hP8
    try clear hP9
    try clear hP10
    try clear hP11
    try clear hseg1
    try clear hseg2
    try clear hseg3
    try clear hseg4
    try clear hseg5
    try clear hseg6
    try clear hseg7
    try clear hseg8
    try clear hseg9
    try clear hseg10
    try clear hseg11
    try clear hB1
    try clear hB2
    try clear hB3
    try clear hB4
    try clear hB5
    try clear hB6
    try clear hB7
    try clear hB8
    try clear hB9
    try clear hB10
    try clear hB11
    go_wp2
    go_roundw
    case rel =>
      have h9 := HP.out
      rw [show ({ op := K, d := K + 1, a := K + 1 + 1, b := K + 1 + 1 + 1, x := K + 1 + 1 + 1 + 1, f := K + 1 + 1 + 1 + 1 + 1, p := K + 1 + 1 + 1 + 1 + 1 + 1, v := { k := K + 1 + 1 + 1 + 1 + 1 + 1 + 1, n := K + 1 + 1 + 1 + 1 + 1 + 1 + 1 + 1, s := mkText (K + 1 + 1 + 1 + 1 + 1 + 1 + 1 + 1 + 1) } } : DFOp) = mkFOp (k + ctL ctFOp (l.take j)) x from by rw [HK.out]; rfl, hset.out] at h9
      exact ⟨j + 1, _, by omega, by rw [hct.out, ← HK.out]; simp [ctFOp]; omega, by go_num, h9, HBB.out⟩
    case measure => simp [intOf]; omega
end Go.Proofs.YthinhlcfpaaldaaGreat.Dat
