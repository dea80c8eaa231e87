/- The laws' own functions over Src. Written by a program (recgen.py). -/
import Derived.Test.YthinhlcfpaaldaaGreatK4
namespace Go.Proofs.YthinhlcfpaaldaaGreat.Dat
open Go Go.RowKit Go.Proofs.YthinhlcfpaaldaaGreat.Mem
set_option linter.unusedVariables false
set_option linter.unusedSimpArgs false
structure DSrc where
  kind : Int
  n : Int
  v : DValue
def zSrc : DSrc := ⟨0, 0, zValue⟩
def kSrc : Knd DSrc := Knd.iso (Knd.pair (Knd.int .i64) (Knd.pair (Knd.int .i64) kValue)) (fun x => (x.kind, x.n, x.v))
/-- What is handed in meets this. -/
def VSrc (x : DSrc) : Prop := (Lit.int .i64 x.kind).wf = true ∧ (Lit.int .i64 x.n).wf = true ∧ VValue x.v
theorem kSrc_K {w : World} {x : DSrc} {cs : List Value} : kSrc.K w x cs ↔ cs = [.int .i64 x.kind, .int .i64 x.n, .int .i64 x.v.k, .int .i64 x.v.n, .string x.v.s] := by
  constructor
  · rintro ⟨_, _, rfl, rfl, ⟨_, _, rfl, rfl, h_v⟩⟩
    have e_v := kValue_K.1 h_v
    subst e_v
    rfl
  · rintro rfl
    exact ⟨[.int .i64 x.kind], [.int .i64 x.n, .int .i64 x.v.k, .int .i64 x.v.n, .string x.v.s], rfl, rfl, ⟨[.int .i64 x.n], [.int .i64 x.v.k, .int .i64 x.v.n, .string x.v.s], rfl, rfl, (kValue_K.2 rfl)⟩⟩
theorem kSrc_at {w : World} {A : Option Addr} {m : Nat} {xs : List DSrc} (h : kSrc.Row w A m xs) (i : Nat) (x : DSrc) (hx : xs[i]? = some x) : ∃ (ad : Addr), A = some ad ∧ w.cell? (ad.add (i * 5)) = some (.int .i64 x.kind) ∧ w.cell? ⟨(ad.add (i * 5)).block, (ad.add (i * 5)).off + 1, none⟩ = some (.int .i64 x.n) ∧ w.cell? ⟨(ad.add (i * 5)).block, (ad.add (i * 5)).off + 2, none⟩ = some (.int .i64 x.v.k) ∧ w.cell? ⟨(ad.add (i * 5)).block, (ad.add (i * 5)).off + 3, none⟩ = some (.int .i64 x.v.n) ∧ w.cell? ⟨(ad.add (i * 5)).block, (ad.add (i * 5)).off + 4, none⟩ = some (.string x.v.s) := by
  obtain ⟨ad, c, e, hK, hc0⟩ := h.get i x hx
  have hc : ∀ j u, c[j]? = some u → w.cell? (ad.add (i * 5 + j)) = some u := hc0
  obtain rfl := kSrc_K.1 hK
  exact ⟨ad, e, hc 0 _ rfl, (by rw [← add_field _ _ 1 (by omega)]; exact hc 1 _ rfl), (by rw [← add_field _ _ 2 (by omega)]; exact hc 2 _ rfl), (by rw [← add_field _ _ 3 (by omega)]; exact hc 3 _ rfl), (by rw [← add_field _ _ 4 (by omega)]; exact hc 4 _ rfl)⟩
def ctSrc (x : DSrc) : Nat := 5
def mkSrc (k : Int) (x : DSrc) : DSrc := { kind := k, n := k + 1, v := { k := k + 1 + 1, n := k + 1 + 1 + 1, s := mkText (k + 1 + 1 + 1 + 1) } }
theorem kSrc_Oi {w : World} {x : DSrc} {cs : List Value} {F : List Nat} : kSrc.O w x cs F ↔ cs = [.int .i64 x.kind, .int .i64 x.n, .int .i64 x.v.k, .int .i64 x.v.n, .string x.v.s] ∧ F = [] := by
  constructor
  · rintro ⟨_, _, _, _, rfl, rfl, ⟨rfl, rfl⟩, ⟨_, _, _, _, rfl, rfl, ⟨rfl, rfl⟩, h_v⟩⟩
    obtain ⟨e1_v, e2_v⟩ := kValue_Oi.1 h_v
    subst e1_v
    subst e2_v
    exact ⟨rfl, rfl⟩
  · rintro ⟨rfl, rfl⟩
    have h : kSrc.O w x [.int .i64 x.kind, .int .i64 x.n, .int .i64 x.v.k, .int .i64 x.v.n, .string x.v.s] (([] ++ ([] ++ []))) := ⟨[.int .i64 x.kind], [.int .i64 x.n, .int .i64 x.v.k, .int .i64 x.v.n, .string x.v.s], [], ([] ++ []), rfl, by simp, ⟨rfl, rfl⟩, ⟨[.int .i64 x.n], [.int .i64 x.v.k, .int .i64 x.v.n, .string x.v.s], [], [], rfl, by simp, ⟨rfl, rfl⟩, (kValue_Oi.2 ⟨rfl, rfl⟩)⟩⟩
    simpa using h
def msSrc (x : DSrc) : Nat := msValue x.v
/-- What a small measure gives. -/
def MSrc (x : DSrc) : Prop := MValue x.v
theorem MSrc_of {x : DSrc} (h : msSrc x ≤ 1048576) : MSrc x := by
  unfold msSrc at h
  try simp only [sumOf] at h
  unfold MSrc
  exact MValue_of (by omega)
set_option maxHeartbeats 4000000 in
set_option maxRecDepth 100000 in
theorem szSrc_c (x : DSrc) (left : Int) (w : World) (hV : VSrc x) (h0 : 0 ≤ left) (h1 : left ≤ 1048576) : Calls Tryz.prog 356 #[.agg #[.int .i64 x.kind, .int .i64 x.n, .int .i64 x.v.k, .int .i64 x.v.n, .string x.v.s], .int .i64 left] w fun e w' => e = .returned (.int .i64 (lft (msSrc x) left)) ∧ Below w.heap.size w w' := by
  have hS := (St.start w).made (.cells #[.int .i64 x.kind, .int .i64 x.n, .int .i64 x.v.k, .int .i64 x.v.n, .string x.v.s] 420 (0, 0))
  by_cases k0 : ((msValue x.v : Nat) : Int) ≤ left
  rotate_left
  · skip
    have C0 := szValue_c   x.v left
    rw [lft_gt (by omega)] at C0
    have HE := Lib.hid (show (-1 : Int) = lft (msSrc x) left by unfold msSrc; rw [lft_gt (by omega)])
    go_enter Tryz.func356, Tryz.ntmps356
    go_wp2_with fail
    refine (C0 _ hV.2.2 (by omega) (by omega)).mono ?_
    rintro e w1 ⟨rfl, hb⟩
    replace hS := hS.step hb
    have xb := hS.cell 0 rfl
    have yb := hS.blt 0 rfl
    clear hb
    go_wp2
    go_ret
    exact ⟨ret_int HE.out, hS.bel⟩
  have C0 := szValue_c   x.v left
  rw [lft_le k0] at C0
  have g0 : 0 ≤ left - (msValue x.v : Int) := by omega
  have HE := Lib.hid (show left - (msValue x.v : Int) = lft (msSrc x) left by unfold msSrc; rw [lft_le (by omega)])
  go_enter Tryz.func356, Tryz.ntmps356
  go_wp2_with fail
  refine (C0 _ hV.2.2 (by omega) (by omega)).mono ?_
  rintro e w1 ⟨rfl, hb⟩
  replace hS := hS.step hb
  have xb := hS.cell 0 rfl
  have yb := hS.blt 0 rfl
  clear hb
  go_wp2
  go_ret
  exact ⟨ret_int HE.out, hS.bel⟩
set_option maxHeartbeats 4000000 in
set_option maxRecDepth 100000 in
theorem szSrcS_c (A : Option Addr) (c : Nat) (l : List DSrc) (left : Int) (w : World) (hr : kSrc.Row w A l.length l) (hm : l.length ≤ maxLen) (hv : ∀ x ∈ l, VSrc x) (h0 : 0 ≤ left) (h1 : left ≤ 1048576) : Calls Tryz.prog 334 #[.slice A l.length c, .int .i64 left] w fun e w' => e = .returned (.int .i64 (lft (sumOf msSrc l) left)) ∧ Below w.heap.size w w' := by
  unfold maxLen at hm
  by_cases h : (l.length : Int) ≤ left
  · have h2 : 0 ≤ left - (l.length : Int) := by omega
    go_enter Tryz.func334, Tryz.ntmps334
    go_wp2
    go_loopw [1, 5] (fun u i wr => ∃ k s : Nat, k ≤ l.length ∧ i = .int .i64 k ∧ Hid (s = ((l.take k).map msSrc).sum) ∧ u = .int .i64 (left - l.length - s) ∧ 0 ≤ left - l.length - s ∧ Below w.heap.size w wr) (fun _ i _ => l.length - (intOf i).toNat)
    case atStart => exact ⟨0, 0, by omega, rfl, rfl, by simp, by simpa using h2, Below.refl _ _⟩
    case round =>
      obtain ⟨k, s, hk, rfl, hs, rfl, hp, hb⟩ := hrel
      by_cases hlt : k < l.length
      · obtain ⟨x, hx⟩ := get_ex l k hlt
        have hV := hv x (List.mem_of_getElem? hx)
        have hsn := sum_snoc msSrc l k x hx
        have hle := sum_le msSrc l (k + 1)
        obtain ⟨ad, rfl, q0, q1, q2, q3, q4⟩ := kSrc_at (hr.below hb) k x hx
        have HX := Lib.hid hx
        clear hx
        have C := szSrc_c   x (left - l.length - s)
        have HV := Lib.hid hV
        clear hV
        by_cases hf : (msSrc x : Int) ≤ left - l.length - s
        · have HS : Hid (s + msSrc x = ((l.take (k + 1)).map msSrc).sum) := Lib.hid (by rw [hsn, ← hs.out])
          have e : lft (msSrc x) (left - l.length - s) = left - l.length - ((s + msSrc x : Nat) : Int) := by simp [lft, hf]; omega
          rw [e] at C
          have hp2 : 0 ≤ left - (l.length : Int) - ((s + msSrc x : Nat) : Int) := by omega
          clear hsn hle hf e
          generalize s + msSrc x = s2 at C HS hp2
          go_wp2_with fail
          refine (C _ HV.out (by omega) (by omega)).mono ?_
          rintro e w' ⟨rfl, hb2⟩
          go_wp2
          go_roundw
          case rel => exact ⟨k + 1, s2, by omega, by go_num, HS, rfl, hp2, bl9⟩
          case measure => simp [intOf]; omega
        · have e : lft (msSrc x) (left - l.length - s) = -1 := by simp [lft]; omega
          rw [e] at C
          have hend : lft (sumOf msSrc l) left = -1 := by
            have h3 := hs.out
            simp [lft, sumOf]
            omega
          have HE := Lib.hid hend
          clear hsn hle e hend
          go_wp2_with fail
          refine (C _ HV.out (by omega) (by omega)).mono ?_
          rintro e w' ⟨rfl, hb2⟩
          go_wp2
          go_ret
          exact ⟨ret_int HE.out.symm, bl9⟩
      · have hend : lft (sumOf msSrc l) left = left - l.length - s := by
          have h3 := hs.out
          rw [List.take_of_length_le (by omega)] at h3
          simp only [lft, sumOf, ← h3]
          rw [if_pos (by omega)]
          omega
        have HE := Lib.hid hend
        clear hend
        go_wp2
        go_ret
        exact ⟨ret_int HE.out.symm, hb⟩
  · have h2 : left - (l.length : Int) < 0 := by omega
    go_enter Tryz.func334, Tryz.ntmps334
    go_wp2
    go_ret
    exact ⟨by simp [lft, sumOf]; omega, Below.refl _ _⟩
theorem infoSrc : (Tryz.prog.info? 269).map (fun i => (i.zero, i.size, i.bytes)) = some (some (.agg #[.int .i64 0, .int .i64 0, .int .i64 0, .int .i64 0, .string (⟨#[]⟩ : ByteArray)]), 5, 48) := by kernel_rfl
set_option maxHeartbeats 4000000 in
set_option maxRecDepth 100000 in
theorem toSrc_c (x : DSrc) (w : World) : Calls Tryz.prog 357 #[.agg #[.int .i64 x.kind, .int .i64 x.n, .int .i64 x.v.k, .int .i64 x.v.n, .string x.v.s]] w fun e w' => e = .returned (.agg #[.int .i64 x.kind, .int .i64 x.n, .int .i64 x.v.k, .int .i64 x.v.n, .string x.v.s]) ∧ Below w.heap.size w w' := by
  go_enter Tryz.func357, Tryz.ntmps357
  go_wp2_with fail
  refine (toValue_c x.v _).mono ?_
  rintro e w1 ⟨rfl, hb1⟩
  obtain ⟨hc1, hf1⟩ := bcell hb1
  have hz1 := hb1.size
  simp at hz1
  have y10 : w.heap.size < w1.heap.size := by omega
  have y11 : w.heap.size + 1 < w1.heap.size := by omega
  have y12 : w.heap.size + 1 + 1 < w1.heap.size := by omega
  go_wp2
  refine bodyPost_ret (v := .agg #[.int .i64 x.kind, .int .i64 x.n, .int .i64 x.v.k, .int .i64 x.v.n, .string x.v.s]) (by simp [results, Tryz.results357, go_sem, true_and, *]) rfl ⟨rfl, bl9⟩
theorem zSrc_O (w : World) : kSrc.O w zSrc (Value.agg #[.int .i64 0, .int .i64 0, .int .i64 0, .int .i64 0, .string (⟨#[]⟩ : ByteArray)]).cells.toList [] := kSrc_Oi.2 ⟨rfl, rfl⟩
set_option maxHeartbeats 4000000 in
set_option maxRecDepth 100000 in
theorem toSrcS_c (A : Option Addr) (c : Nat) (l : List DSrc) (w : World) (hr : kSrc.Row w A l.length l) (hm : l.length ≤ 1048576 ∧ ∀ y ∈ l, MSrc y) : Calls Tryz.prog 337 #[.slice A l.length c] w (NewRow kSrc 269 l w) := by
  obtain ⟨hm, hM⟩ := hm
  go_enter Tryz.func337, Tryz.ntmps337
  go_wp2_with (refine Knd.wp_made kSrc rfl _ _ _ rfl l.length rfl rfl 269 Tryz.underlying169 (.agg #[.int .i64 0, .int .i64 0, .int .i64 0, .int .i64 0, .string (⟨#[]⟩ : ByteArray)]) 48 infoSrc rfl (by decide) (by omega) zSrc zSrc_O (by omega) ?_; rintro g w1 hg ho hb hz; have HG := Lib.hid hg; clear hg)
  have hg0 : w.heap.size ≤ g := Nat.le_of_eq HG.out.symm
  go_loopw [4] (fun i wr => ∃ k : Nat, k ≤ l.length ∧ i = .int .i64 k ∧ kSrc.OwnF 269 wr (.slice (some ⟨g, 0, none⟩) l.length l.length) (l.take k ++ List.replicate (l.length - k) zSrc) (List.replicate l.length []) ∧ Below w.heap.size w wr) (fun i _ => l.length - (intOf i).toNat)
  case atStart => exact ⟨0, by omega, rfl, by simpa using ho, hb⟩
  case round =>
    obtain ⟨k, hk, rfl, ho, hb⟩ := hrel
    by_cases hlt : k < l.length
    · obtain ⟨x, hx⟩ := get_exT l k hlt
      obtain ⟨ad, rfl, q0, q1, q2, q3, q4⟩ := kSrc_at (hr.below hb) k x hx
      have hMx := hM x (List.mem_of_getElem? hx)
      have hp := part_set l zSrc x k hx
      have hle : k < (l.take k ++ List.replicate (l.length - k) zSrc).length := by simp; omega
      have hlen : (l.take k ++ List.replicate (l.length - k) zSrc).length = l.length := by simp; omega
      have HP := Lib.hid hp
      have HX := Lib.hid hx
      have HL := Lib.hid hlen
      clear hp hx hlen
      have C := toSrc_c x wr
      go_wp2_with fail
      refine C.mono ?_
      rintro e w' ⟨rfl, hb2⟩
      have ho2 := ho.below hb2
      obtain ⟨u0, s0⟩ := ho2.cell (k * 5) (by rw [HL.out]; show _ < l.length * 5; omega)
      have f0 := ho2.free (k * 5)
      obtain ⟨u1, s1⟩ := ho2.cell (k * 5 + 1) (by rw [HL.out]; show _ < l.length * 5; omega)
      have f1 := ho2.free (k * 5 + 1)
      obtain ⟨u2, s2⟩ := ho2.cell (k * 5 + 2) (by rw [HL.out]; show _ < l.length * 5; omega)
      have f2 := ho2.free (k * 5 + 2)
      obtain ⟨u3, s3⟩ := ho2.cell (k * 5 + 3) (by rw [HL.out]; show _ < l.length * 5; omega)
      have f3 := ho2.free (k * 5 + 3)
      obtain ⟨u4, s4⟩ := ho2.cell (k * 5 + 4) (by rw [HL.out]; show _ < l.length * 5; omega)
      have f4 := ho2.free (k * 5 + 4)
      go_wp2
      go_roundw
      case rel =>
        refine ⟨k + 1, by omega, by go_num, ?_, ?_⟩
        · have h1 := ho2.put k hle [.int .i64 x.kind, .int .i64 x.n, .int .i64 x.v.k, .int .i64 x.v.n, .string x.v.s] x [] (kSrc_Oi.2 ⟨rfl, rfl⟩) (by simp) (by rw [rep_flat]; simp)
          rw [HP.out, rep_set] at h1
          exact h1
        · exact bl9
      case measure => simp [intOf]; omega
    · obtain rfl : k = l.length := by omega
      go_wp2
      go_ret
      have h1 := ho.own
      rw [List.take_length, Nat.sub_self, List.replicate_zero, List.append_nil, rep_flat] at h1
      exact ⟨_, _, rfl, h1, by simp [Value.ownBlock], by simp [Value.ownBlock]; rw [HG.out]; exact Nat.le_refl _, hb⟩
set_option maxHeartbeats 4000000 in
set_option maxRecDepth 100000 in
theorem eqSrc_c (x : DSrc) (w : World) : Calls Tryz.prog 362 #[.agg #[.int .i64 x.kind, .int .i64 x.n, .int .i64 x.v.k, .int .i64 x.v.n, .string x.v.s], .agg #[.int .i64 x.kind, .int .i64 x.n, .int .i64 x.v.k, .int .i64 x.v.n, .string x.v.s]] w fun e w' => e = .returned (.bool true) ∧ Below w.heap.size w w' := by
  have hS := ((St.start w).made (.cells #[.int .i64 x.kind, .int .i64 x.n, .int .i64 x.v.k, .int .i64 x.v.n, .string x.v.s] 269 (0, 0))).madeAt (.cells #[.int .i64 x.kind, .int .i64 x.n, .int .i64 x.v.k, .int .i64 x.v.n, .string x.v.s] 269 (0, 0)) (w.heap.size + 1) (by simp)
  go_enter Tryz.func362, Tryz.ntmps362
  go_wp2_with fail
  refine (eqValue_c x.v _).mono ?_
  rintro e w1 ⟨rfl, hb⟩
  replace hS := hS.step hb
  have xb := hS.cell 0 rfl
  have xa := hS.cell 1 rfl
  have yb := hS.blt 0 rfl
  have ya := hS.blt 1 rfl
  clear hb
  go_wp2
  go_ret
  exact ⟨rfl, hS.bel⟩
set_option maxHeartbeats 4000000 in
set_option maxRecDepth 100000 in
theorem eqSrcS_c (A B : Option Addr) (c c' : Nat) (l : List DSrc) (w : World) (hr : kSrc.Row w A l.length l) (hr' : kSrc.Row w B l.length l) : Calls Tryz.prog 349 #[.slice A l.length c, .slice B l.length c'] w fun e w' => e = .returned (.bool true) ∧ Below w.heap.size w w' := by
  have hm := hr.2.1
  go_enter Tryz.func349, Tryz.ntmps349
  go_wp2
  go_loopw [5] (fun i wr => ∃ k : Nat, k ≤ l.length ∧ i = .int .i64 k ∧ Below w.heap.size w wr) (fun i _ => l.length - (intOf i).toNat)
  case atStart => exact ⟨0, by omega, rfl, Below.refl _ _⟩
  case round =>
    obtain ⟨k, hk, rfl, hb⟩ := hrel
    by_cases hlt : k < l.length
    · obtain ⟨x, hx⟩ := get_exE l k hlt
      obtain ⟨ady, rfl, q0, q1, q2, q3, q4⟩ := kSrc_at (hr.below hb) k x hx
      obtain ⟨adz, rfl, p0, p1, p2, p3, p4⟩ := kSrc_at (hr'.below hb) k x hx
      clear hx
      go_wp2
      go_region_held3 (fun w' => w'.cell? (ady.add (k * 5)) = some (.int .i64 x.kind) ∧ w'.cell? ⟨(ady.add (k * 5)).block, (ady.add (k * 5)).off + 1, none⟩ = some (.int .i64 x.n) ∧ w'.cell? ⟨(ady.add (k * 5)).block, (ady.add (k * 5)).off + 2, none⟩ = some (.int .i64 x.v.k) ∧ w'.cell? ⟨(ady.add (k * 5)).block, (ady.add (k * 5)).off + 3, none⟩ = some (.int .i64 x.v.n) ∧ w'.cell? ⟨(ady.add (k * 5)).block, (ady.add (k * 5)).off + 4, none⟩ = some (.string x.v.s) ∧ w'.cell? (adz.add (k * 5)) = some (.int .i64 x.kind) ∧ w'.cell? ⟨(adz.add (k * 5)).block, (adz.add (k * 5)).off + 1, none⟩ = some (.int .i64 x.n) ∧ w'.cell? ⟨(adz.add (k * 5)).block, (adz.add (k * 5)).off + 2, none⟩ = some (.int .i64 x.v.k) ∧ w'.cell? ⟨(adz.add (k * 5)).block, (adz.add (k * 5)).off + 3, none⟩ = some (.int .i64 x.v.n) ∧ w'.cell? ⟨(adz.add (k * 5)).block, (adz.add (k * 5)).off + 4, none⟩ = some (.string x.v.s) ∧ Below wr.heap.size wr w') ((refine ⟨?_, ?_, ?_, ?_, ?_, ?_, ?_, ?_, ?_, ?_, ?_⟩ <;> first | assumption | (go_keep; done) | exact bl9)) (first | (go_at_call 362; refine (eqSrc_c _ _).mono ?_; rintro e w' ⟨rfl, hb2⟩; have q0 := kept hb2 q0; have q1 := kept hb2 q1; have q2 := kept hb2 q2; have q3 := kept hb2 q3; have q4 := kept hb2 q4; have p0 := kept hb2 p0; have p1 := kept hb2 p1; have p2 := kept hb2 p2; have p3 := kept hb2 p3; have p4 := kept hb2 p4; have hW2 : Below wr.heap.size wr w' := bl9))
      go_wp2
      go_roundw
      case rel => exact ⟨k + 1, by omega, by go_num, bl9⟩
      case measure => simp [intOf]; omega
    · go_wp2
      go_ret
      exact ⟨rfl, hb⟩
theorem ctOneSrc (x : DSrc) : ctSrc x ≤ 5 * (msSrc x + 1) := by
  have m_v := Nat.zero_le (msValue x.v)
  unfold ctSrc msSrc
  try simp only [sumOf] at *
  omega
theorem ctLeSrc (l : List DSrc) : ctL ctSrc l ≤ 5 * sumOf msSrc l := ctL_le2 5 ctOneSrc l
set_option maxHeartbeats 4000000 in
set_option maxRecDepth 100000 in
theorem markSrcS_c (v : Value) (l : List DSrc) (k : Int) (F : List Nat) (w : World) (h : kSrc.Own 269 w v l F) (hnd : F.Nodup) (h0 : 0 ≤ k) (h1 : k + ctL ctSrc l ≤ 1152921504606846976) (hm : l.length ≤ 1048576 ∧ ∀ y ∈ l, MSrc y) : Calls Tryz.prog 230 #[v, .int .i64 k] w fun e w' => e = .returned (.int .i64 (k + ctL ctSrc l)) ∧ kSrc.Own 269 w' v (mkL mkSrc ctSrc k l) F ∧ But F w w' := by
  have hlm : l.length ≤ 1048576 := hm.1
  by_cases hn : 0 < l.length
  rotate_left
  · have e : l = [] := List.eq_nil_of_length_eq_zero (by omega)
    subst e
    obtain ⟨A, c, rfl, _, _⟩ := h.row
    go_enter Tryz.func230, Tryz.ntmps230
    go_wp2
    go_loopw [1, 5] (fun u i wr => u = .int .i64 k ∧ i = .int .i64 0 ∧ w = wr) (fun _ i _ => 0)
    case atStart => exact ⟨rfl, rfl, rfl⟩
    case round =>
      obtain ⟨rfl, rfl, rfl⟩ := hrel
      go_wp2
      go_ret
      exact ⟨by simp [ctL], h, But.refl _ _⟩
  obtain ⟨g, c, Fs, inner, rfl, hFe, hA0⟩ := h.toAt hnd hn
  subst hFe
  clear h hnd
  go_enter Tryz.func230, Tryz.ntmps230
  go_wp2
  go_loopw [1, 5] (fun u i wr => ∃ (j : Nat) (inner : List Value), j ≤ l.length ∧ u = .int .i64 (k + ctL ctSrc (l.take j)) ∧ i = .int .i64 j ∧ kSrc.At 269 wr g l.length c (upto mkSrc ctSrc k l j) Fs inner ∧ But (g :: Fs.flatten) w wr) (fun _ i _ => l.length - (intOf i).toNat)
  case atStart => exact ⟨0, inner, by omega, by simp [ctL], rfl, by rw [upto_0]; exact hA0, But.refl _ _⟩
  case round =>
    clear hA0
    obtain ⟨j, inner, hj, rfl, rfl, hA, hB⟩ := hrel
    by_cases hlt : j < l.length
    rotate_left
    · obtain rfl : j = l.length := by omega
      rw [upto_all] at hA
      rw [List.take_length]
      go_wp2
      go_ret
      exact ⟨rfl, hA.own, hB⟩
    obtain ⟨x, hx⟩ := get_exU l j hlt
    have hset := Lib.hid (upto_set mkSrc ctSrc k l j x hx)
    have hct := Lib.hid (ctL_snoc ctSrc l j x hx)
    have hle := ctL_mem ctSrc l j x hx
    have hMx := hm.2 x (List.mem_of_getElem? hx)
    have hul : j < (upto mkSrc ctSrc k l j).length := by rw [upto_len]; exact hlt
    obtain ⟨Fj, hFj, hO, _⟩ := hA.elem j x (upto_get mkSrc ctSrc k l j x hx)
    obtain ⟨hseg, hFn⟩ := kSrc_Oi.1 hO
    have hFn := hFn.symm
    subst hFn
    obtain ⟨K, hK⟩ : ∃ K, k + (ctL ctSrc (l.take j) : Int) = K := ⟨_, rfl⟩
    have hK0 : 0 ≤ K := by omega
    have hK1 : K + ctSrc x ≤ 1152921504606846976 := by omega
    rw [hK]
    have HK := Lib.hid hK
    unfold ctSrc at hK1
    have HUL := Lib.hid hul
    have HFJ := Lib.hid hFj
    clear hK hle hO hx
    have c0 : wr.cell? ⟨g, j * 5, none⟩ = some (.int .i64 (x.kind)) := hA.cellj j 0 HUL.out hseg rfl
    have f0 : wr.frozen? ⟨g, j * 5, none⟩ = false := hA.free _
    have c1 : wr.cell? ⟨g, j * 5 + 1, none⟩ = some (.int .i64 (x.n)) := hA.cellj j 1 HUL.out hseg rfl
    have f1 : wr.frozen? ⟨g, j * 5 + 1, none⟩ = false := hA.free _
    have c2 : wr.cell? ⟨g, j * 5 + 2, none⟩ = some (.int .i64 (x.v.k)) := hA.cellj j 2 HUL.out hseg rfl
    have f2 : wr.frozen? ⟨g, j * 5 + 2, none⟩ = false := hA.free _
    have c3 : wr.cell? ⟨g, j * 5 + 3, none⟩ = some (.int .i64 (x.v.n)) := hA.cellj j 3 HUL.out hseg rfl
    have f3 : wr.frozen? ⟨g, j * 5 + 3, none⟩ = false := hA.free _
    have hP1 := hA.put j 0 HUL.out (by decide) (.int .i64 (K)) ({ kind := K, n := x.n, v := { k := x.v.k, n := x.v.n, s := x.v.s } } : DSrc) [] HFJ.out (by rw [hseg]; exact (kSrc_Oi.2 ⟨rfl, rfl⟩))
    have hseg1 := (Knd.At.seg_set_same (d := kSrc) _ j 0 (.int .i64 (K)) (by decide)).trans (congrArg (fun z => z.set 0 (.int .i64 (K))) hseg)
    have hB1 := Knd.At.but_put hB (j * 5 + 0) (.int .i64 (K))
    have hP2 := hP1.put j 1 (by rw [List.length_set]; exact HUL.out) (by decide) (.int .i64 (K + 1)) ({ kind := K, n := K + 1, v := { k := x.v.k, n := x.v.n, s := x.v.s } } : DSrc) [] HFJ.out (by rw [hseg1]; exact (kSrc_Oi.2 ⟨rfl, rfl⟩))
    rw [List.set_set] at hP2
    have hseg2 := (Knd.At.seg_set_same (d := kSrc) _ j 1 (.int .i64 (K + 1)) (by decide)).trans (congrArg (fun z => z.set 1 (.int .i64 (K + 1))) hseg1)
    have hB2 := Knd.At.but_put hB1 (j * 5 + 1) (.int .i64 (K + 1))
    have hP3 := hP2.put j 2 (by rw [List.length_set]; exact HUL.out) (by decide) (.int .i64 (K + 1 + 1)) ({ kind := K, n := K + 1, v := { k := K + 1 + 1, n := x.v.n, s := x.v.s } } : DSrc) [] HFJ.out (by rw [hseg2]; exact (kSrc_Oi.2 ⟨rfl, rfl⟩))
    rw [List.set_set] at hP3
    have hseg3 := (Knd.At.seg_set_same (d := kSrc) _ j 2 (.int .i64 (K + 1 + 1)) (by decide)).trans (congrArg (fun z => z.set 2 (.int .i64 (K + 1 + 1))) hseg2)
    have hB3 := Knd.At.but_put hB2 (j * 5 + 2) (.int .i64 (K + 1 + 1))
    have hP4 := hP3.put j 3 (by rw [List.length_set]; exact HUL.out) (by decide) (.int .i64 (K + 1 + 1 + 1)) ({ kind := K, n := K + 1, v := { k := K + 1 + 1, n := K + 1 + 1 + 1, s := x.v.s } } : DSrc) [] HFJ.out (by rw [hseg3]; exact (kSrc_Oi.2 ⟨rfl, rfl⟩))
    rw [List.set_set] at hP4
    have hseg4 := (Knd.At.seg_set_same (d := kSrc) _ j 3 (.int .i64 (K + 1 + 1 + 1)) (by decide)).trans (congrArg (fun z => z.set 3 (.int .i64 (K + 1 + 1 + 1))) hseg3)
    have hB4 := Knd.At.but_put hB3 (j * 5 + 3) (.int .i64 (K + 1 + 1 + 1))
    have HP := Lib.hid hP4
    have HG := Lib.hid hseg4
    have HBB := Lib.hid hB4
    try clear hA
    try clear hseg
    try clear hB
    try clear hP1
    try clear hP2
    try clear hP3
    try clear hP4
    try clear hseg1
    try clear hseg2
    try clear hseg3
    try clear hseg4
    try clear hB1
    try clear hB2
    try clear hB3
    try clear hB4
    go_wp2_with fail
    refine (markText (K + 1 + 1 + 1 + 1) _ (by omega) (by omega)).mono ?_
    rintro e w5 ⟨rfl, hb5⟩
    have hP5 := HP.out.below hb5
    have hseg5 := HG.out
    have hB5 := HBB.out.trans (But.of_below hb5)
    try clear c0 f0
    try clear c1 f1
    try clear c2 f2
    try clear c3 f3
    try clear c4 f4
    clear HP HG HBB
    have c4 : w5.cell? ⟨g, j * 5 + 4, none⟩ = some (.string (x.v.s)) := hP5.cellj j 4 (by rw [List.length_set]; exact HUL.out) hseg5 rfl
    have f4 : w5.frozen? ⟨g, j * 5 + 4, none⟩ = false := hP5.free _
    have hP6 := hP5.put j 4 (by rw [List.length_set]; exact HUL.out) (by decide) (.string (mkText (K + 1 + 1 + 1 + 1))) ({ kind := K, n := K + 1, v := { k := K + 1 + 1, n := K + 1 + 1 + 1, s := mkText (K + 1 + 1 + 1 + 1) } } : DSrc) [] HFJ.out (by rw [hseg5]; exact (kSrc_Oi.2 ⟨rfl, rfl⟩))
    rw [List.set_set] at hP6
    have hseg6 := (Knd.At.seg_set_same (d := kSrc) _ j 4 (.string (mkText (K + 1 + 1 + 1 + 1))) (by decide)).trans (congrArg (fun z => z.set 4 (.string (mkText (K + 1 + 1 + 1 + 1)))) hseg5)
    have hB6 := Knd.At.but_put hB5 (j * 5 + 4) (.string (mkText (K + 1 + 1 + 1 + 1)))
    have HP := Lib.hid hP6
    have HG := Lib.hid hseg6
    have HBB := Lib.hid hB6
    try clear hA
    try clear hseg
    try clear hB
    try clear hP1
    try clear hP2
    try clear hP3
    try clear hP4
    try clear hP5
    try clear hP6
    try clear hseg1
    try clear hseg2
    try clear hseg3
    try clear hseg4
    try clear hseg5
    try clear hseg6
    try clear hB1
    try clear hB2
    try clear hB3
    try clear hB4
    try clear hB5
    try clear hB6
    go_wp2
    go_roundw
    case rel =>
      have h9 := HP.out
      rw [show ({ kind := K, n := K + 1, v := { k := K + 1 + 1, n := K + 1 + 1 + 1, s := mkText (K + 1 + 1 + 1 + 1) } } : DSrc) = mkSrc (k + ctL ctSrc (l.take j)) x from by rw [HK.out]; rfl, hset.out] at h9
      exact ⟨j + 1, _, by omega, by rw [hct.out, ← HK.out]; simp [ctSrc]; omega, by go_num, h9, HBB.out⟩
    case measure => simp [intOf]; omega
end Go.Proofs.YthinhlcfpaaldaaGreat.Dat
