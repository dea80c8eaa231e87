/- The laws' own functions over FOp. Written by a program (recgen.py). -/
import Derived.Test.YthinhlcfpaaldaaGreatK4
namespace Go.Proofs.YthinhlcfpaaldaaGreat.Dat
open Go Go.RowKit Go.Proofs.YthinhlcfpaaldaaGreat.Mem
set_option linter.unusedVariables false
set_option linter.unusedSimpArgs false
structure DFOp where
  op : Int
  d : Int
  a : Int
  b : Int
  x : Int
  f : Int
  p : Int
  v : DValue
def zFOp : DFOp := ⟨0, 0, 0, 0, 0, 0, 0, zValue⟩
def kFOp : Knd DFOp := Knd.iso (Knd.pair (Knd.int .i64) (Knd.pair (Knd.int .i64) (Knd.pair (Knd.int .i64) (Knd.pair (Knd.int .i64) (Knd.pair (Knd.int .i64) (Knd.pair (Knd.int .i64) (Knd.pair (Knd.int .i64) kValue))))))) (fun x => (x.op, x.d, x.a, x.b, x.x, x.f, x.p, x.v))
/-- What is handed in meets this. -/
def VFOp (x : DFOp) : Prop := (Lit.int .i64 x.op).wf = true ∧ (Lit.int .i64 x.d).wf = true ∧ (Lit.int .i64 x.a).wf = true ∧ (Lit.int .i64 x.b).wf = true ∧ (Lit.int .i64 x.x).wf = true ∧ (Lit.int .i64 x.f).wf = true ∧ (Lit.int .i64 x.p).wf = true ∧ VValue x.v
theorem kFOp_K {w : World} {x : DFOp} {cs : List Value} : kFOp.K w x cs ↔ cs = [.int .i64 x.op, .int .i64 x.d, .int .i64 x.a, .int .i64 x.b, .int .i64 x.x, .int .i64 x.f, .int .i64 x.p, .int .i64 x.v.k, .int .i64 x.v.n, .string x.v.s] := by
  constructor
  · rintro ⟨_, _, rfl, rfl, ⟨_, _, rfl, rfl, ⟨_, _, rfl, rfl, ⟨_, _, rfl, rfl, ⟨_, _, rfl, rfl, ⟨_, _, rfl, rfl, ⟨_, _, rfl, rfl, h_v⟩⟩⟩⟩⟩⟩⟩
    have e_v := kValue_K.1 h_v
    subst e_v
    rfl
  · rintro rfl
    exact ⟨[.int .i64 x.op], [.int .i64 x.d, .int .i64 x.a, .int .i64 x.b, .int .i64 x.x, .int .i64 x.f, .int .i64 x.p, .int .i64 x.v.k, .int .i64 x.v.n, .string x.v.s], rfl, rfl, ⟨[.int .i64 x.d], [.int .i64 x.a, .int .i64 x.b, .int .i64 x.x, .int .i64 x.f, .int .i64 x.p, .int .i64 x.v.k, .int .i64 x.v.n, .string x.v.s], rfl, rfl, ⟨[.int .i64 x.a], [.int .i64 x.b, .int .i64 x.x, .int .i64 x.f, .int .i64 x.p, .int .i64 x.v.k, .int .i64 x.v.n, .string x.v.s], rfl, rfl, ⟨[.int .i64 x.b], [.int .i64 x.x, .int .i64 x.f, .int .i64 x.p, .int .i64 x.v.k, .int .i64 x.v.n, .string x.v.s], rfl, rfl, ⟨[.int .i64 x.x], [.int .i64 x.f, .int .i64 x.p, .int .i64 x.v.k, .int .i64 x.v.n, .string x.v.s], rfl, rfl, ⟨[.int .i64 x.f], [.int .i64 x.p, .int .i64 x.v.k, .int .i64 x.v.n, .string x.v.s], rfl, rfl, ⟨[.int .i64 x.p], [.int .i64 x.v.k, .int .i64 x.v.n, .string x.v.s], rfl, rfl, (kValue_K.2 rfl)⟩⟩⟩⟩⟩⟩⟩
theorem kFOp_at {w : World} {A : Option Addr} {m : Nat} {xs : List DFOp} (h : kFOp.Row w A m xs) (i : Nat) (x : DFOp) (hx : xs[i]? = some x) : ∃ (ad : Addr), A = some ad ∧ w.cell? (ad.add (i * 10)) = some (.int .i64 x.op) ∧ w.cell? ⟨(ad.add (i * 10)).block, (ad.add (i * 10)).off + 1, none⟩ = some (.int .i64 x.d) ∧ w.cell? ⟨(ad.add (i * 10)).block, (ad.add (i * 10)).off + 2, none⟩ = some (.int .i64 x.a) ∧ w.cell? ⟨(ad.add (i * 10)).block, (ad.add (i * 10)).off + 3, none⟩ = some (.int .i64 x.b) ∧ w.cell? ⟨(ad.add (i * 10)).block, (ad.add (i * 10)).off + 4, none⟩ = some (.int .i64 x.x) ∧ w.cell? ⟨(ad.add (i * 10)).block, (ad.add (i * 10)).off + 5, none⟩ = some (.int .i64 x.f) ∧ w.cell? ⟨(ad.add (i * 10)).block, (ad.add (i * 10)).off + 6, none⟩ = some (.int .i64 x.p) ∧ w.cell? ⟨(ad.add (i * 10)).block, (ad.add (i * 10)).off + 7, none⟩ = some (.int .i64 x.v.k) ∧ w.cell? ⟨(ad.add (i * 10)).block, (ad.add (i * 10)).off + 8, none⟩ = some (.int .i64 x.v.n) ∧ w.cell? ⟨(ad.add (i * 10)).block, (ad.add (i * 10)).off + 9, none⟩ = some (.string x.v.s) := by
  obtain ⟨ad, c, e, hK, hc0⟩ := h.get i x hx
  have hc : ∀ j u, c[j]? = some u → w.cell? (ad.add (i * 10 + j)) = some u := hc0
  obtain rfl := kFOp_K.1 hK
  exact ⟨ad, e, hc 0 _ rfl, (by rw [← add_field _ _ 1 (by omega)]; exact hc 1 _ rfl), (by rw [← add_field _ _ 2 (by omega)]; exact hc 2 _ rfl), (by rw [← add_field _ _ 3 (by omega)]; exact hc 3 _ rfl), (by rw [← add_field _ _ 4 (by omega)]; exact hc 4 _ rfl), (by rw [← add_field _ _ 5 (by omega)]; exact hc 5 _ rfl), (by rw [← add_field _ _ 6 (by omega)]; exact hc 6 _ rfl), (by rw [← add_field _ _ 7 (by omega)]; exact hc 7 _ rfl), (by rw [← add_field _ _ 8 (by omega)]; exact hc 8 _ rfl), (by rw [← add_field _ _ 9 (by omega)]; exact hc 9 _ rfl)⟩
theorem kFOp_Oi {w : World} {x : DFOp} {cs : List Value} {F : List Nat} : kFOp.O w x cs F ↔ cs = [.int .i64 x.op, .int .i64 x.d, .int .i64 x.a, .int .i64 x.b, .int .i64 x.x, .int .i64 x.f, .int .i64 x.p, .int .i64 x.v.k, .int .i64 x.v.n, .string x.v.s] ∧ F = [] := by
  constructor
  · rintro ⟨_, _, _, _, rfl, rfl, ⟨rfl, rfl⟩, ⟨_, _, _, _, rfl, rfl, ⟨rfl, rfl⟩, ⟨_, _, _, _, rfl, rfl, ⟨rfl, rfl⟩, ⟨_, _, _, _, rfl, rfl, ⟨rfl, rfl⟩, ⟨_, _, _, _, rfl, rfl, ⟨rfl, rfl⟩, ⟨_, _, _, _, rfl, rfl, ⟨rfl, rfl⟩, ⟨_, _, _, _, rfl, rfl, ⟨rfl, rfl⟩, h_v⟩⟩⟩⟩⟩⟩⟩
    obtain ⟨e1_v, e2_v⟩ := kValue_Oi.1 h_v
    subst e1_v
    subst e2_v
    exact ⟨rfl, rfl⟩
  · rintro ⟨rfl, rfl⟩
    have h : kFOp.O w x [.int .i64 x.op, .int .i64 x.d, .int .i64 x.a, .int .i64 x.b, .int .i64 x.x, .int .i64 x.f, .int .i64 x.p, .int .i64 x.v.k, .int .i64 x.v.n, .string x.v.s] (([] ++ ([] ++ ([] ++ ([] ++ ([] ++ ([] ++ ([] ++ [])))))))) := ⟨[.int .i64 x.op], [.int .i64 x.d, .int .i64 x.a, .int .i64 x.b, .int .i64 x.x, .int .i64 x.f, .int .i64 x.p, .int .i64 x.v.k, .int .i64 x.v.n, .string x.v.s], [], ([] ++ ([] ++ ([] ++ ([] ++ ([] ++ ([] ++ [])))))), rfl, by simp, ⟨rfl, rfl⟩, ⟨[.int .i64 x.d], [.int .i64 x.a, .int .i64 x.b, .int .i64 x.x, .int .i64 x.f, .int .i64 x.p, .int .i64 x.v.k, .int .i64 x.v.n, .string x.v.s], [], ([] ++ ([] ++ ([] ++ ([] ++ ([] ++ []))))), rfl, by simp, ⟨rfl, rfl⟩, ⟨[.int .i64 x.a], [.int .i64 x.b, .int .i64 x.x, .int .i64 x.f, .int .i64 x.p, .int .i64 x.v.k, .int .i64 x.v.n, .string x.v.s], [], ([] ++ ([] ++ ([] ++ ([] ++ [])))), rfl, by simp, ⟨rfl, rfl⟩, ⟨[.int .i64 x.b], [.int .i64 x.x, .int .i64 x.f, .int .i64 x.p, .int .i64 x.v.k, .int .i64 x.v.n, .string x.v.s], [], ([] ++ ([] ++ ([] ++ []))), rfl, by simp, ⟨rfl, rfl⟩, ⟨[.int .i64 x.x], [.int .i64 x.f, .int .i64 x.p, .int .i64 x.v.k, .int .i64 x.v.n, .string x.v.s], [], ([] ++ ([] ++ [])), rfl, by simp, ⟨rfl, rfl⟩, ⟨[.int .i64 x.f], [.int .i64 x.p, .int .i64 x.v.k, .int .i64 x.v.n, .string x.v.s], [], ([] ++ []), rfl, by simp, ⟨rfl, rfl⟩, ⟨[.int .i64 x.p], [.int .i64 x.v.k, .int .i64 x.v.n, .string x.v.s], [], [], rfl, by simp, ⟨rfl, rfl⟩, (kValue_Oi.2 ⟨rfl, rfl⟩)⟩⟩⟩⟩⟩⟩⟩
    simpa using h
def msFOp (x : DFOp) : Nat := msValue x.v
/-- What a small measure gives. -/
def MFOp (x : DFOp) : Prop := MValue x.v
theorem MFOp_of {x : DFOp} (h : msFOp x ≤ 1048576) : MFOp x := by
  unfold msFOp at h
  try simp only [sumOf] at h
  unfold MFOp
  exact MValue_of (by omega)
set_option maxHeartbeats 4000000 in
set_option maxRecDepth 100000 in
theorem szFOp_c (x : DFOp) (left : Int) (w : World) (hV : VFOp x) (h0 : 0 ≤ left) (h1 : left ≤ 1048576) : Calls Tryz.prog 126 #[.agg #[.int .i64 x.op, .int .i64 x.d, .int .i64 x.a, .int .i64 x.b, .int .i64 x.x, .int .i64 x.f, .int .i64 x.p, .int .i64 x.v.k, .int .i64 x.v.n, .string x.v.s], .int .i64 left] w fun e w' => e = .returned (.int .i64 (lft (msFOp x) left)) ∧ Below w.heap.size w w' := by
  have hS := (St.start w).made (.cells #[.int .i64 x.op, .int .i64 x.d, .int .i64 x.a, .int .i64 x.b, .int .i64 x.x, .int .i64 x.f, .int .i64 x.p, .int .i64 x.v.k, .int .i64 x.v.n, .string x.v.s] 188 (0, 0))
  by_cases k0 : ((msValue x.v : Nat) : Int) ≤ left
  rotate_left
  · skip
    have C0 := szValue_c   x.v left
    rw [lft_gt (by omega)] at C0
    have HE := Lib.hid (show (-1 : Int) = lft (msFOp x) left by unfold msFOp; rw [lft_gt (by omega)])
    go_enter Tryz.func126, Tryz.ntmps126
    go_wp2_with fail
    refine (C0 _ hV.2.2.2.2.2.2.2 (by omega) (by omega)).mono ?_
    rintro e w1 ⟨rfl, hb⟩
    replace hS := hS.step hb
    have xb := hS.cell 0 rfl
    have yb := hS.blt 0 rfl
    clear hb
    go_wp2
    go_ret
    exact ⟨ret_int HE.out, hS.bel⟩
  have C0 := szValue_c   x.v left
  rw [lft_le k0] at C0
  have g0 : 0 ≤ left - (msValue x.v : Int) := by omega
  have HE := Lib.hid (show left - (msValue x.v : Int) = lft (msFOp x) left by unfold msFOp; rw [lft_le (by omega)])
  go_enter Tryz.func126, Tryz.ntmps126
  go_wp2_with fail
  refine (C0 _ hV.2.2.2.2.2.2.2 (by omega) (by omega)).mono ?_
  rintro e w1 ⟨rfl, hb⟩
  replace hS := hS.step hb
  have xb := hS.cell 0 rfl
  have yb := hS.blt 0 rfl
  clear hb
  go_wp2
  go_ret
  exact ⟨ret_int HE.out, hS.bel⟩
set_option maxHeartbeats 4000000 in
set_option maxRecDepth 100000 in
theorem szFOpS_c (A : Option Addr) (c : Nat) (l : List DFOp) (left : Int) (w : World) (hr : kFOp.Row w A l.length l) (hm : l.length ≤ maxLen) (hv : ∀ x ∈ l, VFOp x) (h0 : 0 ≤ left) (h1 : left ≤ 1048576) : Calls Tryz.prog 56 #[.slice A l.length c, .int .i64 left] w fun e w' => e = .returned (.int .i64 (lft (sumOf msFOp l) left)) ∧ Below w.heap.size w w' := by
  unfold maxLen at hm
  by_cases h : (l.length : Int) ≤ left
  · have h2 : 0 ≤ left - (l.length : Int) := by omega
    go_enter Tryz.func56, Tryz.ntmps56
    go_wp2
    go_loopw [1, 5] (fun u i wr => ∃ k s : Nat, k ≤ l.length ∧ i = .int .i64 k ∧ Hid (s = ((l.take k).map msFOp).sum) ∧ u = .int .i64 (left - l.length - s) ∧ 0 ≤ left - l.length - s ∧ Below w.heap.size w wr) (fun _ i _ => l.length - (intOf i).toNat)
    case atStart => exact ⟨0, 0, by omega, rfl, rfl, by simp, by simpa using h2, Below.refl _ _⟩
    case round =>
      obtain ⟨k, s, hk, rfl, hs, rfl, hp, hb⟩ := hrel
      by_cases hlt : k < l.length
      · obtain ⟨x, hx⟩ := get_ex l k hlt
        have hV := hv x (List.mem_of_getElem? hx)
        have hsn := sum_snoc msFOp l k x hx
        have hle := sum_le msFOp l (k + 1)
        obtain ⟨ad, rfl, q0, q1, q2, q3, q4, q5, q6, q7, q8, q9⟩ := kFOp_at (hr.below hb) k x hx
        have HX := Lib.hid hx
        clear hx
        have C := szFOp_c   x (left - l.length - s)
        have HV := Lib.hid hV
        clear hV
        by_cases hf : (msFOp x : Int) ≤ left - l.length - s
        · have HS : Hid (s + msFOp x = ((l.take (k + 1)).map msFOp).sum) := Lib.hid (by rw [hsn, ← hs.out])
          have e : lft (msFOp x) (left - l.length - s) = left - l.length - ((s + msFOp x : Nat) : Int) := by simp [lft, hf]; omega
          rw [e] at C
          have hp2 : 0 ≤ left - (l.length : Int) - ((s + msFOp x : Nat) : Int) := by omega
          clear hsn hle hf e
          generalize s + msFOp x = s2 at C HS hp2
          go_wp2_with fail
          refine (C _ HV.out (by omega) (by omega)).mono ?_
          rintro e w' ⟨rfl, hb2⟩
          go_wp2
          go_roundw
          case rel => exact ⟨k + 1, s2, by omega, by go_num, HS, rfl, hp2, bl9⟩
          case measure => simp [intOf]; omega
        · have e : lft (msFOp x) (left - l.length - s) = -1 := by simp [lft]; omega
          rw [e] at C
          have hend : lft (sumOf msFOp l) left = -1 := by
            have h3 := hs.out
            simp [lft, sumOf]
            omega
          have HE := Lib.hid hend
          clear hsn hle e hend
          go_wp2_with fail
          refine (C _ HV.out (by omega) (by omega)).mono ?_
          rintro e w' ⟨rfl, hb2⟩
          go_wp2
          go_ret
          exact ⟨ret_int HE.out.symm, bl9⟩
      · have hend : lft (sumOf msFOp l) left = left - l.length - s := by
          have h3 := hs.out
          rw [List.take_of_length_le (by omega)] at h3
          simp only [lft, sumOf, ← h3]
          rw [if_pos (by omega)]
          omega
        have HE := Lib.hid hend
        clear hend
        go_wp2
        go_ret
        exact ⟨ret_int HE.out.symm, hb⟩
  · have h2 : left - (l.length : Int) < 0 := by omega
    go_enter Tryz.func56, Tryz.ntmps56
    go_wp2
    go_ret
    exact ⟨by simp [lft, sumOf]; omega, Below.refl _ _⟩
theorem infoFOp : (Tryz.prog.info? 164).map (fun i => (i.zero, i.size, i.bytes)) = some (some (.agg #[.int .i64 0, .int .i64 0, .int .i64 0, .int .i64 0, .int .i64 0, .int .i64 0, .int .i64 0, .int .i64 0, .int .i64 0, .string (⟨#[]⟩ : ByteArray)]), 10, 88) := by kernel_rfl
set_option maxHeartbeats 4000000 in
set_option maxRecDepth 100000 in
theorem toFOp_c (x : DFOp) (w : World) : Calls Tryz.prog 131 #[.agg #[.int .i64 x.op, .int .i64 x.d, .int .i64 x.a, .int .i64 x.b, .int .i64 x.x, .int .i64 x.f, .int .i64 x.p, .int .i64 x.v.k, .int .i64 x.v.n, .string x.v.s]] w fun e w' => e = .returned (.agg #[.int .i64 x.op, .int .i64 x.d, .int .i64 x.a, .int .i64 x.b, .int .i64 x.x, .int .i64 x.f, .int .i64 x.p, .int .i64 x.v.k, .int .i64 x.v.n, .string x.v.s]) ∧ Below w.heap.size w w' := by
  go_enter Tryz.func131, Tryz.ntmps131
  go_wp2_with fail
  refine (toValue_c x.v _).mono ?_
  rintro e w1 ⟨rfl, hb1⟩
  obtain ⟨hc1, hf1⟩ := bcell hb1
  have hz1 := hb1.size
  simp at hz1
  have y10 : w.heap.size < w1.heap.size := by omega
  have y11 : w.heap.size + 1 < w1.heap.size := by omega
  have y12 : w.heap.size + 1 + 1 < w1.heap.size := by omega
  go_wp2
  refine bodyPost_ret (v := .agg #[.int .i64 x.op, .int .i64 x.d, .int .i64 x.a, .int .i64 x.b, .int .i64 x.x, .int .i64 x.f, .int .i64 x.p, .int .i64 x.v.k, .int .i64 x.v.n, .string x.v.s]) (by simp [results, Tryz.results131, go_sem, true_and, *]) rfl ⟨rfl, bl9⟩
theorem zFOp_O (w : World) : kFOp.O w zFOp (Value.agg #[.int .i64 0, .int .i64 0, .int .i64 0, .int .i64 0, .int .i64 0, .int .i64 0, .int .i64 0, .int .i64 0, .int .i64 0, .string (⟨#[]⟩ : ByteArray)]).cells.toList [] := kFOp_Oi.2 ⟨rfl, rfl⟩
set_option maxHeartbeats 4000000 in
set_option maxRecDepth 100000 in
theorem toFOpS_c (A : Option Addr) (c : Nat) (l : List DFOp) (w : World) (hr : kFOp.Row w A l.length l) (hm : l.length ≤ 1048576 ∧ ∀ y ∈ l, MFOp y) : Calls Tryz.prog 62 #[.slice A l.length c] w (NewRow kFOp 164 l w) := by
  obtain ⟨hm, hM⟩ := hm
  go_enter Tryz.func62, Tryz.ntmps62
  go_wp2_with (refine Knd.wp_made kFOp rfl _ _ _ rfl l.length rfl rfl 164 Tryz.underlying38 (.agg #[.int .i64 0, .int .i64 0, .int .i64 0, .int .i64 0, .int .i64 0, .int .i64 0, .int .i64 0, .int .i64 0, .int .i64 0, .string (⟨#[]⟩ : ByteArray)]) 88 infoFOp rfl (by decide) (by omega) zFOp zFOp_O (by omega) ?_; rintro g w1 hg ho hb hz; have HG := Lib.hid hg; clear hg)
  have hg0 : w.heap.size ≤ g := Nat.le_of_eq HG.out.symm
  go_loopw [4] (fun i wr => ∃ k : Nat, k ≤ l.length ∧ i = .int .i64 k ∧ kFOp.OwnF 164 wr (.slice (some ⟨g, 0, none⟩) l.length l.length) (l.take k ++ List.replicate (l.length - k) zFOp) (List.replicate l.length []) ∧ Below w.heap.size w wr) (fun i _ => l.length - (intOf i).toNat)
  case atStart => exact ⟨0, by omega, rfl, by simpa using ho, hb⟩
  case round =>
    obtain ⟨k, hk, rfl, ho, hb⟩ := hrel
    by_cases hlt : k < l.length
    · obtain ⟨x, hx⟩ := get_exT l k hlt
      obtain ⟨ad, rfl, q0, q1, q2, q3, q4, q5, q6, q7, q8, q9⟩ := kFOp_at (hr.below hb) k x hx
      have hMx := hM x (List.mem_of_getElem? hx)
      have hp := part_set l zFOp x k hx
      have hle : k < (l.take k ++ List.replicate (l.length - k) zFOp).length := by simp; omega
      have hlen : (l.take k ++ List.replicate (l.length - k) zFOp).length = l.length := by simp; omega
      have HP := Lib.hid hp
      have HX := Lib.hid hx
      have HL := Lib.hid hlen
      clear hp hx hlen
      have C := toFOp_c x wr
      go_wp2_with fail
      refine C.mono ?_
      rintro e w' ⟨rfl, hb2⟩
      have ho2 := ho.below hb2
      obtain ⟨u0, s0⟩ := ho2.cell (k * 10) (by rw [HL.out]; show _ < l.length * 10; omega)
      have f0 := ho2.free (k * 10)
      obtain ⟨u1, s1⟩ := ho2.cell (k * 10 + 1) (by rw [HL.out]; show _ < l.length * 10; omega)
      have f1 := ho2.free (k * 10 + 1)
      obtain ⟨u2, s2⟩ := ho2.cell (k * 10 + 2) (by rw [HL.out]; show _ < l.length * 10; omega)
      have f2 := ho2.free (k * 10 + 2)
      obtain ⟨u3, s3⟩ := ho2.cell (k * 10 + 3) (by rw [HL.out]; show _ < l.length * 10; omega)
      have f3 := ho2.free (k * 10 + 3)
      obtain ⟨u4, s4⟩ := ho2.cell (k * 10 + 4) (by rw [HL.out]; show _ < l.length * 10; omega)
      have f4 := ho2.free (k * 10 + 4)
      obtain ⟨u5, s5⟩ := ho2.cell (k * 10 + 5) (by rw [HL.out]; show _ < l.length * 10; omega)
      have f5 := ho2.free (k * 10 + 5)
      obtain ⟨u6, s6⟩ := ho2.cell (k * 10 + 6) (by rw [HL.out]; show _ < l.length * 10; omega)
      have f6 := ho2.free (k * 10 + 6)
      obtain ⟨u7, s7⟩ := ho2.cell (k * 10 + 7) (by rw [HL.out]; show _ < l.length * 10; omega)
      have f7 := ho2.free (k * 10 + 7)
      obtain ⟨u8, s8⟩ := ho2.cell (k * 10 + 8) (by rw [HL.out]; show _ < l.length * 10; omega)
      have f8 := ho2.free (k * 10 + 8)
      obtain ⟨u9, s9⟩ := ho2.cell (k * 10 + 9) (by rw [HL.out]; show _ < l.length * 10; omega)
      have f9 := ho2.free (k * 10 + 9)
      go_wp2
      go_roundw
      case rel =>
        refine ⟨k + 1, by omega, by go_num, ?_, ?_⟩
        · have h1 := ho2.put k hle [.int .i64 x.op, .int .i64 x.d, .int .i64 x.a, .int .i64 x.b, .int .i64 x.x, .int .i64 x.f, .int .i64 x.p, .int .i64 x.v.k, .int .i64 x.v.n, .string x.v.s] x [] (kFOp_Oi.2 ⟨rfl, rfl⟩) (by simp) (by rw [rep_flat]; simp)
          rw [HP.out, rep_set] at h1
          exact h1
        · exact bl9
      case measure => simp [intOf]; omega
    · obtain rfl : k = l.length := by omega
      go_wp2
      go_ret
      have h1 := ho.own
      rw [List.take_length, Nat.sub_self, List.replicate_zero, List.append_nil, rep_flat] at h1
      exact ⟨_, _, rfl, h1, by simp [Value.ownBlock], by simp [Value.ownBlock]; rw [HG.out]; exact Nat.le_refl _, hb⟩
set_option maxHeartbeats 4000000 in
set_option maxRecDepth 100000 in
theorem eqFOp_c (x : DFOp) (w : World) : Calls Tryz.prog 138 #[.agg #[.int .i64 x.op, .int .i64 x.d, .int .i64 x.a, .int .i64 x.b, .int .i64 x.x, .int .i64 x.f, .int .i64 x.p, .int .i64 x.v.k, .int .i64 x.v.n, .string x.v.s], .agg #[.int .i64 x.op, .int .i64 x.d, .int .i64 x.a, .int .i64 x.b, .int .i64 x.x, .int .i64 x.f, .int .i64 x.p, .int .i64 x.v.k, .int .i64 x.v.n, .string x.v.s]] w fun e w' => e = .returned (.bool true) ∧ Below w.heap.size w w' := by
  have hS := ((St.start w).made (.cells #[.int .i64 x.op, .int .i64 x.d, .int .i64 x.a, .int .i64 x.b, .int .i64 x.x, .int .i64 x.f, .int .i64 x.p, .int .i64 x.v.k, .int .i64 x.v.n, .string x.v.s] 164 (0, 0))).madeAt (.cells #[.int .i64 x.op, .int .i64 x.d, .int .i64 x.a, .int .i64 x.b, .int .i64 x.x, .int .i64 x.f, .int .i64 x.p, .int .i64 x.v.k, .int .i64 x.v.n, .string x.v.s] 164 (0, 0)) (w.heap.size + 1) (by simp)
  go_enter Tryz.func138, Tryz.ntmps138
  go_wp2_with fail
  refine (eqValue_c x.v _).mono ?_
  rintro e w1 ⟨rfl, hb⟩
  replace hS := hS.step hb
  have xb := hS.cell 0 rfl
  have xa := hS.cell 1 rfl
  have yb := hS.blt 0 rfl
  have ya := hS.blt 1 rfl
  clear hb
  go_wp2
  go_ret
  exact ⟨rfl, hS.bel⟩
set_option maxHeartbeats 4000000 in
set_option maxRecDepth 100000 in
theorem eqFOpS_c (A B : Option Addr) (c c' : Nat) (l : List DFOp) (w : World) (hr : kFOp.Row w A l.length l) (hr' : kFOp.Row w B l.length l) : Calls Tryz.prog 69 #[.slice A l.length c, .slice B l.length c'] w fun e w' => e = .returned (.bool true) ∧ Below w.heap.size w w' := by
  have hm := hr.2.1
  go_enter Tryz.func69, Tryz.ntmps69
  go_wp2
  go_loopw [5] (fun i wr => ∃ k : Nat, k ≤ l.length ∧ i = .int .i64 k ∧ Below w.heap.size w wr) (fun i _ => l.length - (intOf i).toNat)
  case atStart => exact ⟨0, by omega, rfl, Below.refl _ _⟩
  case round =>
    obtain ⟨k, hk, rfl, hb⟩ := hrel
    by_cases hlt : k < l.length
    · obtain ⟨x, hx⟩ := get_exE l k hlt
      obtain ⟨ady, rfl, q0, q1, q2, q3, q4, q5, q6, q7, q8, q9⟩ := kFOp_at (hr.below hb) k x hx
      obtain ⟨adz, rfl, p0, p1, p2, p3, p4, p5, p6, p7, p8, p9⟩ := kFOp_at (hr'.below hb) k x hx
      clear hx
      go_wp2
      go_region_held3 (fun w' => w'.cell? (ady.add (k * 10)) = some (.int .i64 x.op) ∧ w'.cell? ⟨(ady.add (k * 10)).block, (ady.add (k * 10)).off + 1, none⟩ = some (.int .i64 x.d) ∧ w'.cell? ⟨(ady.add (k * 10)).block, (ady.add (k * 10)).off + 2, none⟩ = some (.int .i64 x.a) ∧ w'.cell? ⟨(ady.add (k * 10)).block, (ady.add (k * 10)).off + 3, none⟩ = some (.int .i64 x.b) ∧ w'.cell? ⟨(ady.add (k * 10)).block, (ady.add (k * 10)).off + 4, none⟩ = some (.int .i64 x.x) ∧ w'.cell? ⟨(ady.add (k * 10)).block, (ady.add (k * 10)).off + 5, none⟩ = some (.int .i64 x.f) ∧ w'.cell? ⟨(ady.add (k * 10)).block, (ady.add (k * 10)).off + 6, none⟩ = some (.int .i64 x.p) ∧ w'.cell? ⟨(ady.add (k * 10)).block, (ady.add (k * 10)).off + 7, none⟩ = some (.int .i64 x.v.k) ∧ w'.cell? ⟨(ady.add (k * 10)).block, (ady.add (k * 10)).off + 8, none⟩ = some (.int .i64 x.v.n) ∧ w'.cell? ⟨(ady.add (k * 10)).block, (ady.add (k * 10)).off + 9, none⟩ = some (.string x.v.s) ∧ w'.cell? (adz.add (k * 10)) = some (.int .i64 x.op) ∧ w'.cell? ⟨(adz.add (k * 10)).block, (adz.add (k * 10)).off + 1, none⟩ = some (.int .i64 x.d) ∧ w'.cell? ⟨(adz.add (k * 10)).block, (adz.add (k * 10)).off + 2, none⟩ = some (.int .i64 x.a) ∧ w'.cell? ⟨(adz.add (k * 10)).block, (adz.add (k * 10)).off + 3, none⟩ = some (.int .i64 x.b) ∧ w'.cell? ⟨(adz.add (k * 10)).block, (adz.add (k * 10)).off + 4, none⟩ = some (.int .i64 x.x) ∧ w'.cell? ⟨(adz.add (k * 10)).block, (adz.add (k * 10)).off + 5, none⟩ = some (.int .i64 x.f) ∧ w'.cell? ⟨(adz.add (k * 10)).block, (adz.add (k * 10)).off + 6, none⟩ = some (.int .i64 x.p) ∧ w'.cell? ⟨(adz.add (k * 10)).block, (adz.add (k * 10)).off + 7, none⟩ = some (.int .i64 x.v.k) ∧ w'.cell? ⟨(adz.add (k * 10)).block, (adz.add (k * 10)).off + 8, none⟩ = some (.int .i64 x.v.n) ∧ w'.cell? ⟨(adz.add (k * 10)).block, (adz.add (k * 10)).off + 9, none⟩ = some (.string x.v.s) ∧ Below wr.heap.size wr w') ((refine ⟨?_, ?_, ?_, ?_, ?_, ?_, ?_, ?_, ?_, ?_, ?_, ?_, ?_, ?_, ?_, ?_, ?_, ?_, ?_, ?_, ?_⟩ <;> first | assumption | (go_keep; done) | exact bl9)) (first | (go_at_call 138; refine (eqFOp_c _ _).mono ?_; rintro e w' ⟨rfl, hb2⟩; have q0 := kept hb2 q0; have q1 := kept hb2 q1; have q2 := kept hb2 q2; have q3 := kept hb2 q3; have q4 := kept hb2 q4; have q5 := kept hb2 q5; have q6 := kept hb2 q6; have q7 := kept hb2 q7; have q8 := kept hb2 q8; have q9 := kept hb2 q9; have p0 := kept hb2 p0; have p1 := kept hb2 p1; have p2 := kept hb2 p2; have p3 := kept hb2 p3; have p4 := kept hb2 p4; have p5 := kept hb2 p5; have p6 := kept hb2 p6; have p7 := kept hb2 p7; have p8 := kept hb2 p8; have p9 := kept hb2 p9; have hW2 : Below wr.heap.size wr w' := bl9))
      go_wp2
      go_roundw
      case rel => exact ⟨k + 1, by omega, by go_num, bl9⟩
      case measure => simp [intOf]; omega
    · go_wp2
      go_ret
      exact ⟨rfl, hb⟩
end Go.Proofs.YthinhlcfpaaldaaGreat.Dat
