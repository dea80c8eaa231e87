/- Code written as numbers: the reference's way, and WriteFast of both. Written by a program (wrfgen.py). -/
import Derived.Test.YthinhlcfpaaldaaGreatWrG
import Derived.Test.YthinhlcfpaaldaaGreatFlO
namespace Go.Proofs.YthinhlcfpaaldaaGreat.Dat
open Go Go.RowKit Go.Proofs.YthinhlcfpaaldaaGreat.Mem
set_option linter.unusedVariables false
set_option linter.unusedSimpArgs false
theorem take_snocW {R : List Int} {j : Nat} {z : Int} (h : R[j]? = some z) : R.take (j + 1) = R.take j ++ [z] := by
  rw [List.take_add_one, h]
  rfl
theorem row_cellW {W : World} {g : Nat} (R : List Int) (h : ∀ j, W.cell? ⟨g, j, none⟩ = (R.map (Value.int .i64)).toArray[j]?) (j : Nat) (z : Int) (hz : R[j]? = some z) : W.cell? ⟨g, j, none⟩ = some (.int .i64 z) := by
  rw [h, List.getElem?_toArray, List.getElem?_map, hz]
  rfl
theorem addW (ad : Addr) (i j : Nat) : ad.add (i + j) = (ad.add i).add j := by
  unfold Addr.add
  by_cases hi : i = 0
  · subst hi
    simp
  · rw [if_neg (by omega), if_neg hi]
    by_cases hj : j = 0
    · subst hj
      simp
    · rw [if_neg hj]
      congr 1
      simp only
      omega
set_option maxHeartbeats 8000000 in
set_option maxRecDepth 100000 in
theorem wSrcs3 {w0 W : World} {L : List Res} {g : Nat} {v : Value} {xs : List Int} {F : List Nat} (A : Option Addr) (c : Nat) (l : List DSrc) (hS : St w0 (Res.wr 141 g 3 v xs F :: L) W) (hr : kSrc.Row w0 A l.length l) (hl : l.length ≤ 1048576) (hb : xs.length + (encL encSrc l).length ≤ 1099511627776) :
    Calls Tryz.prog 119 #[.pointer (some ⟨g, 0, none⟩), .slice A l.length c] W (Wrote w0 W 141 g 3 v xs F (xs ++ encL encSrc l)) := by
  have eL : (encL encSrc l).length = 1 + (l.map encSrc).flatten.length := by unfold encL; rw [List.length_cons]; omega
  have HX := Lib.hid (show (xs ++ [(l.length : Int)]) ++ (l.map encSrc).flatten = xs ++ encL encSrc l by rw [List.append_assoc]; rfl)
  go_enter Tryz.func119, Tryz.ntmps119
  go_wp2_with fail
  refine (wPut3 (l.length : Int) hS (by omega)).mono ?_
  rintro e w1 ⟨rfl, v1, F1, T1⟩
  go_wp2
  go_loopw [4] (fun i wr => ∃ (k : Nat) (v2 : Value) (F2 : List Nat), k ≤ l.length ∧ i = .int .i64 k ∧ Tn w0 W (Res.wr 141 g 3 v xs F) (Res.wr 141 g 3 v2 ((xs ++ [(l.length : Int)]) ++ ((l.take k).map encSrc).flatten) F2) [] wr) (fun i _ => l.length - (intOf i).toNat)
  case atStart => exact ⟨0, v1, F1, by omega, rfl, by simpa using T1⟩
  case round =>
    clear T1
    obtain ⟨k, v2, F2, hk, rfl, hT⟩ := hrel
    by_cases hlt : k < l.length
    rotate_left
    · obtain rfl : k = l.length := by omega
      rw [List.take_length, HX.out] at hT
      go_wp2
      go_end0
      exact ⟨rfl, v2, F2, hT⟩
    obtain ⟨x, hx⟩ := get_exU l k hlt
    have hle := flat_mem_le (enc := encSrc) hx
    have hlx : (encSrc x).length = 2 + (encV x.v).length := by unfold encSrc; rw [List.length_cons, List.length_cons]; omega
    have HN := Lib.hid (show ((xs ++ [(l.length : Int)]) ++ ((l.take k).map encSrc).flatten) ++ encSrc x = (xs ++ [(l.length : Int)]) ++ ((l.take (k + 1)).map encSrc).flatten by rw [flat_snoc hx, List.append_assoc])
    obtain ⟨Z, hZ⟩ : ∃ Z, (xs ++ [(l.length : Int)]) ++ ((l.take k).map encSrc).flatten = Z := ⟨_, rfl⟩
    have hzl : Z.length + (encSrc x).length ≤ 1099511627776 := by
      rw [← hZ, List.length_append, List.length_append]
      simp only [List.length_singleton]
      omega
    rw [hZ] at hT HN
    clear hZ
    obtain ⟨ad, rfl, q0, q1, q2, q3, q4⟩ := kSrc_at hr k x hx
    have u0 := kept hT.st.bel q0
    clear hx hle
    go_wp2_with fail
    refine (wPut3 x.kind (hS.turn 0 rfl hT) (by omega)).mono ?_
    rintro e w2 ⟨rfl, v3, F3, T3⟩
    have hT3 := hT.turn T3
    clear u0 T3 hT q0
    have u1 := kept hT3.st.bel q1
    go_wp2_with fail
    refine (wPut3 x.n (hS.turn 0 rfl hT3) (by rw [List.length_append, List.length_singleton]; omega)).mono ?_
    rintro e w4 ⟨rfl, v5, F5, T5⟩
    have hT5 := hT3.turn T5
    clear u1 T5 hT3 q1
    have u2 := kept hT5.st.bel q2
    have u3 := kept hT5.st.bel q3
    have u4 := kept hT5.st.bel q4
    clear q2 q3 q4
    go_wp2_with fail
    refine (wValue3 x.v (hS.turn 0 rfl hT5) (by rw [List.length_append, List.length_append, List.length_singleton, List.length_singleton]; omega)).mono ?_
    rintro e w6 ⟨rfl, v7, F7, T7⟩
    have hT7 := hT5.turn T7
    clear u2 u3 u4 T7 hT5
    rw [show ((Z ++ [x.kind]) ++ [x.n]) ++ encV x.v = Z ++ encSrc x by simp [encSrc], HN.out] at hT7
    go_wp2
    go_roundw
    case rel => exact ⟨k + 1, v7, F7, by omega, by go_num, hT7⟩
    case measure => simp [intOf]; omega
def writeFastL (t : List ByteArray) (l : List DFunc) (c : DFast) : List Int := if fastOkB t l c then encFast c else []
theorem writeFast_small (t : List ByteArray) (l : List DFunc) (c : DFast) (h : msFast c ≤ 1048576) : (writeFastL t l c).length ≤ 10485766 := by
  unfold writeFastL
  split
  · have := encFast_len c
    omega
  · simp
theorem writeFastL_no {t : List ByteArray} {l : List DFunc} {c : DFast} (h : fastOkB t l c = false) : writeFastL t l c = [] := by unfold writeFastL; rw [h]; rfl
theorem writeFastL_yes {t : List ByteArray} {l : List DFunc} {c : DFast} (h : fastOkB t l c = true) : writeFastL t l c = encFast c := by unfold writeFastL; rw [h]; rfl
set_option maxHeartbeats 8000000 in
set_option maxRecDepth 100000 in
theorem writeFastI (A B A4 A5 : Option Addr) (c0 d0 c4 c5 : Nat) (t : List ByteArray) (l : List DFunc) (c : DFast) (w : World) (h : HasMod A B t l w) (r4 : kFOp.Row w A4 c.ops.length c.ops) (r5 : kExit.Row w A5 c.exits.length c.exits) (hM : MFast c) (hms : msFast c ≤ 1048576) {X : List Int} (hX : writeFastL t l c = X) :
    Calls Tryz.prog 51 #[.agg #[.slice A t.length c0, .slice B l.length d0], .agg #[.int .i64 c.fn, .int .i64 c.entry, .int .i64 c.vals, .int .i64 c.nums, .slice A4 c.ops.length c4, .slice A5 c.exits.length c5]] w (NewRow (Knd.int .i64) 3 X w) := by
  subst hX
  have hS := ((St.start w).made (.cells #[.slice A t.length c0, .slice B l.length d0] 36 (0, 0))).madeAt (.cells #[.int .i64 c.fn, .int .i64 c.entry, .int .i64 c.vals, .int .i64 c.nums, .slice A4 c.ops.length c4, .slice A5 c.exits.length c5] 41 (0, 0)) (w.heap.size + 1) (by simp)
  have x_m := hS.cell 1 rfl
  have x_v := hS.cell 0 rfl
  cases hv : fastOkB t l c
  · rw [writeFastL_no hv]
    have HV := Lib.hid hv
    clear hv
    go_enter Tryz.func51, Tryz.ntmps51
    go_wp2_with fail
    refine (fastOkI A B A4 A5 c0 d0 c4 c5 t l c _ (h.below hS.bel) (r4.below hS.bel) (r5.below hS.bel) hM hms HV.out).mono ?_
    rintro e w1 ⟨rfl, hb⟩
    clear x_m x_v
    replace hS := hS.step hb
    clear hb
    go_wp2
    go_ret
    exact newNil _ _ _ _ hS.bel
  · rw [writeFastL_yes hv]
    have HV := Lib.hid hv
    clear hv
    go_enter Tryz.func51, Tryz.ntmps51
    go_wp2_with fail
    refine (fastOkI A B A4 A5 c0 d0 c4 c5 t l c _ (h.below hS.bel) (r4.below hS.bel) (r5.below hS.bel) hM hms HV.out).mono ?_
    rintro e w1 ⟨rfl, hb⟩
    clear x_m x_v
    replace hS := hS.step hb
    clear hb
    have x_v := hS.cell 0 rfl
    go_wp2_with fail
    refine (writeFastC A4 A5 c4 c5 c _ (r4.below hS.bel) (r5.below hS.bel) hM hms).mono ?_
    intro e w2 hn
    obtain ⟨u, F, rfl, hS2⟩ := hS.newRow hn
    clear hn x_v
    go_wp2
    go_ret
    exact hS2.outRow 0 rfl
set_option maxHeartbeats 8000000 in
set_option maxRecDepth 100000 in
theorem writeFast3 (A B A4 A5 : Option Addr) (c0 d0 c4 c5 : Nat) (t : List ByteArray) (l : List DFunc) (c : DFast) (w : World) (h : HasMod A B t l w) (r4 : kFOp.Row w A4 c.ops.length c.ops) (r5 : kExit.Row w A5 c.exits.length c.exits) (hM : MFast c) (hms : msFast c ≤ 1048576) {X : List Int} (hX : writeFastL t l c = X) :
    Calls Tryz.prog 50 #[.agg #[.slice A t.length c0, .slice B l.length d0], .agg #[.int .i64 c.fn, .int .i64 c.entry, .int .i64 c.vals, .int .i64 c.nums, .slice A4 c.ops.length c4, .slice A5 c.exits.length c5]] w (NewRow (Knd.int .i64) 3 X w) := by
  subst hX
  have hS := ((St.start w).made (.cells #[.slice A t.length c0, .slice B l.length d0] 36 (0, 0))).madeAt (.cells #[.int .i64 c.fn, .int .i64 c.entry, .int .i64 c.vals, .int .i64 c.nums, .slice A4 c.ops.length c4, .slice A5 c.exits.length c5] 41 (0, 0)) (w.heap.size + 1) (by simp)
  replace hS := (hS.madeAt (.cells #[.slice none 0 0] 141 (0, 0)) (w.heap.size + 1 + 1) (by simp)).mkWr (e := 3)
  have x_m := hS.cell 2 rfl
  have x_v := hS.cell 1 rfl
  have y_w := hS.wrCell
  cases hv : fastOkB t l c
  · rw [writeFastL_no hv]
    have HV := Lib.hid hv
    clear hv
    go_enter Tryz.func50, Tryz.ntmps50
    go_wp2_with fail
    refine (fastOk3 A B A4 A5 c0 d0 c4 c5 t l c _ (h.below hS.bel) (r4.below hS.bel) (r5.below hS.bel) hM hms HV.out).mono ?_
    rintro e w1 ⟨rfl, hb⟩
    clear x_m x_v y_w
    replace hS := hS.step hb
    clear hb
    have y_w := hS.wrCell
    go_wp2
    go_ret
    exact hS.outWr
  rw [writeFastL_yes hv]
  have HV := Lib.hid hv
  clear hv
  have q1 := eFlat_len (enc := encO) (ms := msFOp) 10 c.ops (fun x _ => encO_len x)
  have q2 := eFlat_len (enc := encX) (ms := msExit) 7 c.exits (fun x _ => encX_len x)
  have hms2 : sumOf msFOp c.ops + sumOf msExit c.exits ≤ 1048576 := hms
  have hlO := hM.1.1
  have hlX := hM.2.1
  go_enter Tryz.func50, Tryz.ntmps50
  go_wp2_with fail
  refine (fastOk3 A B A4 A5 c0 d0 c4 c5 t l c _ (h.below hS.bel) (r4.below hS.bel) (r5.below hS.bel) hM hms HV.out).mono ?_
  rintro e w0 ⟨rfl, hb⟩
  clear x_m x_v y_w
  replace hS := hS.step hb
  clear hb
  have x_v := hS.cell 1 rfl
  go_wp2_with fail
  refine (wPut3 c.fn hS (by simp)).mono ?_
  rintro e y1 ⟨rfl, v1, F1, T1⟩
  try clear x_v
  replace hS := hS.turn 0 rfl T1
  clear T1
  have x_v := hS.cell 1 rfl
  go_wp2_with fail
  refine (wPut3 c.entry hS (by simp only [List.length_append, List.length_cons, List.length_nil]; omega)).mono ?_
  rintro e y2 ⟨rfl, v2, F2, T2⟩
  try clear x_v
  replace hS := hS.turn 0 rfl T2
  clear T2
  have x_v := hS.cell 1 rfl
  go_wp2_with fail
  refine (wPut3 c.vals hS (by simp only [List.length_append, List.length_cons, List.length_nil]; omega)).mono ?_
  rintro e y3 ⟨rfl, v3, F3, T3⟩
  try clear x_v
  replace hS := hS.turn 0 rfl T3
  clear T3
  have x_v := hS.cell 1 rfl
  go_wp2_with fail
  refine (wPut3 c.nums hS (by simp only [List.length_append, List.length_cons, List.length_nil]; omega)).mono ?_
  rintro e y4 ⟨rfl, v4, F4, T4⟩
  try clear x_v
  replace hS := hS.turn 0 rfl T4
  clear T4
  have x_v := hS.cell 1 rfl
  go_wp2_with fail
  refine (wPut3 (c.ops.length : Int) hS (by simp only [List.length_append, List.length_cons, List.length_nil]; omega)).mono ?_
  rintro e y5 ⟨rfl, v5, F5, T5⟩
  try clear x_v
  replace hS := hS.turn 0 rfl T5
  clear T5
  have x_v := hS.cell 1 rfl
  obtain ⟨Z0, hZ0⟩ : ∃ Z0, [c.fn, c.entry, c.vals, c.nums, (c.ops.length : Int)] = Z0 := ⟨_, rfl⟩
  have hz0 : Z0.length = 5 := by rw [← hZ0]; rfl
  rw [show (((([] ++ [c.fn]) ++ [c.entry]) ++ [c.vals]) ++ [c.nums]) ++ [(c.ops.length : Int)] = Z0 from hZ0] at hS
  have HZ0 := Lib.hid hZ0
  clear hZ0
  go_wp2
  clear x_v
  go_loopw [6] (fun i wr => ∃ (k : Nat) (u2 : Value) (F2 : List Nat), k ≤ c.ops.length ∧ i = .int .i64 k ∧ St w (Res.wr 141 (w.heap.size + 1 + 1) 3 u2 (Z0 ++ ((c.ops.take k).map encO).flatten) F2 :: [Res.box (w.heap.size + 1) (.cells #[.int .i64 c.fn, .int .i64 c.entry, .int .i64 c.vals, .int .i64 c.nums, .slice A4 c.ops.length c4, .slice A5 c.exits.length c5] 41 (0, 0)), Res.box w.heap.size (.cells #[.slice A t.length c0, .slice B l.length d0] 36 (0, 0))]) wr) (fun i _ => c.ops.length - (intOf i).toNat)
  case atStart => exact ⟨0, _, _, by omega, rfl, by simpa using hS⟩
  case round =>
    clear hS
    obtain ⟨k, u2, F2, hk, rfl, hS⟩ := hrel
    have x_v := hS.cell 1 rfl
    by_cases hlt : k < c.ops.length
    rotate_left
    · obtain rfl : k = c.ops.length := by omega
      rw [List.take_length] at hS
      go_wp2_with fail
      refine (wPut3 (c.exits.length : Int) hS (by simp only [List.length_append, List.length_cons, List.length_nil]; omega)).mono ?_
      rintro e y6 ⟨rfl, v6, F6, T6⟩
      try clear x_v
      replace hS := hS.turn 0 rfl T6
      clear T6
      have x_v := hS.cell 1 rfl
      obtain ⟨Z1, hZ1⟩ : ∃ Z1, (Z0 ++ (c.ops.map encO).flatten) ++ [(c.exits.length : Int)] = Z1 := ⟨_, rfl⟩
      have hz1 : Z1.length = 6 + ((c.ops.map encO).flatten).length := by rw [← hZ1]; simp only [List.length_append, List.length_cons, List.length_nil]; omega
      rw [hZ1] at hS
      have HZ1 := Lib.hid hZ1
      clear hZ1
      go_wp2
      clear x_v
      go_loopw [10] (fun i wr => ∃ (k : Nat) (u2 : Value) (F2 : List Nat), k ≤ c.exits.length ∧ i = .int .i64 k ∧ St w (Res.wr 141 (w.heap.size + 1 + 1) 3 u2 (Z1 ++ ((c.exits.take k).map encX).flatten) F2 :: [Res.box (w.heap.size + 1) (.cells #[.int .i64 c.fn, .int .i64 c.entry, .int .i64 c.vals, .int .i64 c.nums, .slice A4 c.ops.length c4, .slice A5 c.exits.length c5] 41 (0, 0)), Res.box w.heap.size (.cells #[.slice A t.length c0, .slice B l.length d0] 36 (0, 0))]) wr) (fun i _ => c.exits.length - (intOf i).toNat)
      case atStart => exact ⟨0, _, _, by omega, rfl, by simpa using hS⟩
      case round =>
        clear hS
        obtain ⟨k, u2, F2, hk, rfl, hS⟩ := hrel
        have x_v := hS.cell 1 rfl
        by_cases hlt : k < c.exits.length
        rotate_left
        · obtain rfl : k = c.exits.length := by omega
          rw [List.take_length] at hS
          have y1 := hS.wrCell
          go_wp2
          go_ret
          have e9 := hS.outWr
          rw [← HZ1.out, ← HZ0.out] at e9
          simpa [encFast, encL, List.append_assoc] using e9
        obtain ⟨x, hx⟩ := get_exU c.exits k hlt
        have hle := flat_mem_le (enc := encX) hx
        have HN := Lib.hid (show (Z1 ++ ((c.exits.take k).map encX).flatten) ++ encX x = Z1 ++ ((c.exits.take (k + 1)).map encX).flatten by rw [flat_snoc hx, List.append_assoc])
        obtain ⟨Z, hZ⟩ : ∃ Z, Z1 ++ ((c.exits.take k).map encX).flatten = Z := ⟨_, rfl⟩
        have hzl : Z.length + (encX x).length ≤ 60000000 := by
          rw [← hZ, List.length_append]
          omega
        rw [hZ] at hS HN
        clear hZ
        have hMx := hM.2.2 x (List.mem_of_getElem? hx)
        obtain ⟨ad, AF, AR, cf, cr, rfl, q0, q1, q2, q3, q4, q5, q6, hcf, rF, hcr, rR⟩ := kExit_at r5 k x hx
        have u0 := kept hS.bel q0
        have u1 := kept hS.bel q1
        have u2 := kept hS.bel q2
        have u3 := kept hS.bel q3
        have u4 := kept hS.bel q4
        have u5 := kept hS.bel q5
        have u6 := kept hS.bel q6
        have hXx : (encX x).length = 7 + ((x.frames.map encXF).flatten).length + ((x.recs.map encXR).flatten).length := by unfold encX encL; simp only [List.length_cons, List.length_append]; omega
        have hxF := hMx.1.1
        have hxR := hMx.2.1
        obtain ⟨gx, hgx⟩ : ∃ gx, wr.heap.size = gx := ⟨_, rfl⟩
        have hT := (((hS.madeAt (.cells #[.int .i64 x.kind, .int .i64 x.spec.fn, .int .i64 x.spec.pc, .int .i64 x.spec.kind, .int .i64 x.spec.target, .slice AF x.frames.length cf, .slice AR x.recs.length cr] 168 (0, 0)) gx hgx).madeAt (.cells #[.int .i64 x.kind, .int .i64 x.spec.fn, .int .i64 x.spec.pc, .int .i64 x.spec.kind, .int .i64 x.spec.target, .int .i64 (x.frames.length : Int)] 3 (0, 0)) (gx + 1) (by simp [hgx])).third).second
        clear hx hle q0 q1 q2 q3 q4 q5 q6 hS
        have hS := hT
        clear hT
        go_wp2
        clear x_v u0 u1 u2 u3 u4 u5 u6
        go_loopw [13] (fun i wr => ∃ (j : Nat) (u2 : Value) (F2 : List Nat), j ≤ 6 ∧ i = .int .i64 j ∧ St w (Res.wr 141 (w.heap.size + 1 + 1) 3 u2 (Z ++ ([x.kind, x.spec.fn, x.spec.pc, x.spec.kind, x.spec.target, (x.frames.length : Int)]).take j) F2 :: (Res.box (gx + 1) (.cells #[.int .i64 x.kind, .int .i64 x.spec.fn, .int .i64 x.spec.pc, .int .i64 x.spec.kind, .int .i64 x.spec.target, .int .i64 (x.frames.length : Int)] 3 (0, 0)) :: Res.box gx (.cells #[.int .i64 x.kind, .int .i64 x.spec.fn, .int .i64 x.spec.pc, .int .i64 x.spec.kind, .int .i64 x.spec.target, .slice AF x.frames.length cf, .slice AR x.recs.length cr] 168 (0, 0)) :: [Res.box (w.heap.size + 1) (.cells #[.int .i64 c.fn, .int .i64 c.entry, .int .i64 c.vals, .int .i64 c.nums, .slice A4 c.ops.length c4, .slice (some ad) c.exits.length c5] 41 (0, 0)), Res.box w.heap.size (.cells #[.slice A t.length c0, .slice B l.length d0] 36 (0, 0))])) wr) (fun i _ => 6 - (intOf i).toNat)
        case atStart => exact ⟨0, _, _, by omega, rfl, by simpa using hS⟩
        case round =>
          clear hS
          obtain ⟨j, u3, F3, hj, rfl, hS⟩ := hrel
          by_cases hjt : j < 6
          rotate_left
          · obtain rfl : j = 6 := by omega
            rw [show ([x.kind, x.spec.fn, x.spec.pc, x.spec.kind, x.spec.target, (x.frames.length : Int)]).take 6 = [x.kind, x.spec.fn, x.spec.pc, x.spec.kind, x.spec.target, (x.frames.length : Int)] from rfl] at hS
            have x_x := hS.cell 2 rfl
            go_wp2
            clear x_x
            go_loopw [14] (fun i wr => ∃ (i2 : Nat) (u2 : Value) (F2 : List Nat), i2 ≤ x.frames.length ∧ i = .int .i64 i2 ∧ St w (Res.wr 141 (w.heap.size + 1 + 1) 3 u2 ((Z ++ [x.kind, x.spec.fn, x.spec.pc, x.spec.kind, x.spec.target, (x.frames.length : Int)]) ++ ((x.frames.take i2).map encXF).flatten) F2 :: (Res.box (gx + 1) (.cells #[.int .i64 x.kind, .int .i64 x.spec.fn, .int .i64 x.spec.pc, .int .i64 x.spec.kind, .int .i64 x.spec.target, .int .i64 (x.frames.length : Int)] 3 (0, 0)) :: Res.box gx (.cells #[.int .i64 x.kind, .int .i64 x.spec.fn, .int .i64 x.spec.pc, .int .i64 x.spec.kind, .int .i64 x.spec.target, .slice AF x.frames.length cf, .slice AR x.recs.length cr] 168 (0, 0)) :: [Res.box (w.heap.size + 1) (.cells #[.int .i64 c.fn, .int .i64 c.entry, .int .i64 c.vals, .int .i64 c.nums, .slice A4 c.ops.length c4, .slice (some ad) c.exits.length c5] 41 (0, 0)), Res.box w.heap.size (.cells #[.slice A t.length c0, .slice B l.length d0] 36 (0, 0))])) wr) (fun i _ => x.frames.length - (intOf i).toNat)
            case atStart => exact ⟨0, _, _, by omega, rfl, by simpa using hS⟩
            case round =>
              clear hS
              obtain ⟨i2, u3, F3, hi2, rfl, hS⟩ := hrel
              have x_x := hS.cell 2 rfl
              by_cases hit : i2 < x.frames.length
              rotate_left
              · obtain rfl : i2 = x.frames.length := by omega
                rw [List.take_length] at hS
                go_wp2_with fail
                refine (wPut3 (x.recs.length : Int) hS (by simp only [List.length_append, List.length_cons, List.length_nil]; omega)).mono ?_
                rintro e y7 ⟨rfl, v7, F7, T7⟩
                try clear x_x
                replace hS := hS.turn 0 rfl T7
                clear T7
                have x_x := hS.cell 2 rfl
                go_wp2
                clear x_x
                go_loopw [15] (fun i wr => ∃ (i3 : Nat) (u2 : Value) (F2 : List Nat), i3 ≤ x.recs.length ∧ i = .int .i64 i3 ∧ St w (Res.wr 141 (w.heap.size + 1 + 1) 3 u2 ((((Z ++ [x.kind, x.spec.fn, x.spec.pc, x.spec.kind, x.spec.target, (x.frames.length : Int)]) ++ (x.frames.map encXF).flatten) ++ [(x.recs.length : Int)]) ++ ((x.recs.take i3).map encXR).flatten) F2 :: (Res.box (gx + 1) (.cells #[.int .i64 x.kind, .int .i64 x.spec.fn, .int .i64 x.spec.pc, .int .i64 x.spec.kind, .int .i64 x.spec.target, .int .i64 (x.frames.length : Int)] 3 (0, 0)) :: Res.box gx (.cells #[.int .i64 x.kind, .int .i64 x.spec.fn, .int .i64 x.spec.pc, .int .i64 x.spec.kind, .int .i64 x.spec.target, .slice AF x.frames.length cf, .slice AR x.recs.length cr] 168 (0, 0)) :: [Res.box (w.heap.size + 1) (.cells #[.int .i64 c.fn, .int .i64 c.entry, .int .i64 c.vals, .int .i64 c.nums, .slice A4 c.ops.length c4, .slice (some ad) c.exits.length c5] 41 (0, 0)), Res.box w.heap.size (.cells #[.slice A t.length c0, .slice B l.length d0] 36 (0, 0))])) wr) (fun i _ => x.recs.length - (intOf i).toNat)
                case atStart => exact ⟨0, _, _, by omega, rfl, by simpa using hS⟩
                case round =>
                  clear hS
                  obtain ⟨i3, u3, F3, hi3, rfl, hS⟩ := hrel
                  have x_x := hS.cell 2 rfl
                  by_cases hi3t : i3 < x.recs.length
                  rotate_left
                  · obtain rfl : i3 = x.recs.length := by omega
                    rw [List.take_length] at hS
                    go_wp2
                    try clear x_x
                    go_roundw
                    case rel =>
                      have e8 := (hS.front 1 rfl).drop
                      have e9 := (e8.front 1 rfl).drop
                      exact ⟨k + 1, u3, F3, by omega, by go_num, by rw [← HN.out]; simpa [encX, encL, List.append_assoc] using e9⟩
                    case measure => simp [intOf]; omega
                  obtain ⟨y, hy⟩ := get_exU x.recs i3 hi3t
                  have hly := flat_mem_le (enc := encXR) hy
                  have hMy := hMx.2.2 y (List.mem_of_getElem? hy)
                  have hyl : (encXR y).length = (encL encSrc y.fields).length := rfl
                  obtain ⟨adr, A0, cy, rfl, q0, _, ry⟩ := kExRec_at rR i3 y hy
                  have z0 := kept hS.bel q0
                  rw [Nat.mul_one] at z0
                  go_wp2_with fail
                  refine (wSrcs3 A0 cy y.fields hS ry hMy.1 (by simp only [List.length_append, List.length_cons, List.length_nil]; omega)).mono ?_
                  rintro e w30 ⟨rfl, v30, F30, T30⟩
                  clear x_x z0 q0
                  replace hS := hS.turn 0 rfl T30
                  clear T30
                  go_wp2
                  go_roundw
                  case rel => exact ⟨i3 + 1, v30, F30, by omega, by go_num, by rw [flat_snoc hy, ← List.append_assoc]; exact hS⟩
                  case measure => simp [intOf]; omega
              obtain ⟨y, hy⟩ := get_exU x.frames i2 hit
              have hly := flat_mem_le (enc := encXF) hy
              have hMy := hMx.1.2 y (List.mem_of_getElem? hy)
              have hyl : (encXF y).length = 2 + (encL encSrc y.locals).length + (encL encSrc y.stack).length := by unfold encXF; simp only [List.length_cons, List.length_append]; omega
              obtain ⟨adf, A2, A3, c2, c3, rfl, q0, q1, q2, q3, _, r2, _, r3⟩ := kExFrame_at rF i2 y hy
              have z0 := kept hS.bel q0
              go_wp2_with fail
              refine (wPut3 y.fn hS (by simp only [List.length_append, List.length_cons, List.length_nil]; omega)).mono ?_
              rintro e y8 ⟨rfl, v8, F8, T8⟩
              try clear z0
              try clear x_x
              try clear z1
              replace hS := hS.turn 0 rfl T8
              clear T8
              have z0 := trivial
              have x_x := hS.cell 2 rfl
              have z1 := kept hS.bel q1
              go_wp2_with fail
              refine (wPut3 y.pc hS (by simp only [List.length_append, List.length_cons, List.length_nil]; omega)).mono ?_
              rintro e y9 ⟨rfl, v9, F9, T9⟩
              try clear z1
              try clear x_x
              try clear z2
              replace hS := hS.turn 0 rfl T9
              clear T9
              have z1 := trivial
              have x_x := hS.cell 2 rfl
              have z2 := kept hS.bel q2
              go_wp2_with fail
              refine (wSrcs3 A2 c2 y.locals hS (r2) hMy.1.1 (by simp only [List.length_append, List.length_cons, List.length_nil]; omega)).mono ?_
              rintro e y10 ⟨rfl, v10, F10, T10⟩
              try clear z2
              try clear x_x
              try clear z3
              replace hS := hS.turn 0 rfl T10
              clear T10
              have z2 := trivial
              have x_x := hS.cell 2 rfl
              have z3 := kept hS.bel q3
              go_wp2_with fail
              refine (wSrcs3 A3 c3 y.stack hS (r3) hMy.2.1 (by simp only [List.length_append, List.length_cons, List.length_nil]; omega)).mono ?_
              rintro e y11 ⟨rfl, v11, F11, T11⟩
              try clear z3
              try clear x_x
              replace hS := hS.turn 0 rfl T11
              clear T11
              have z3 := trivial
              have x_x := hS.cell 2 rfl
              clear x_x z3
              go_wp2
              refine ⟨?_, ?measure⟩
              (repeat apply Exists.intro)
              refine ⟨?rel, rfl⟩
              case rel => exact ⟨i2 + 1, v11, F11, by omega, by go_num, by rw [flat_snoc hy, ← List.append_assoc]; simpa [encXF, List.append_assoc] using hS⟩
              case measure => simp [intOf]; omega
          obtain ⟨z, hz⟩ := get_exU ([x.kind, x.spec.fn, x.spec.pc, x.spec.kind, x.spec.target, (x.frames.length : Int)]) j (by simpa using hjt)
          have y1 := row_cellW ([x.kind, x.spec.fn, x.spec.pc, x.spec.kind, x.spec.target, (x.frames.length : Int)]) (hS.cell 1 rfl) j z hz
          have hlj : (List.take j ([x.kind, x.spec.fn, x.spec.pc, x.spec.kind, x.spec.target, (x.frames.length : Int)])).length ≤ 6 := by rw [List.length_take]; omega
          go_wp2_with fail
          refine (wPut3 z hS (by rw [List.length_append]; omega)).mono ?_
          rintro e w20 ⟨rfl, v20, F20, T20⟩
          clear y1
          replace hS := hS.turn 0 rfl T20
          clear T20
          go_wp2
          go_roundw
          case rel => exact ⟨j + 1, v20, F20, by omega, by go_num, by rw [take_snocW hz, ← List.append_assoc]; exact hS⟩
          case measure => simp [intOf]; omega
    obtain ⟨x, hx⟩ := get_exU c.ops k hlt
    have hle := flat_mem_le (enc := encO) hx
    have HN := Lib.hid (show (Z0 ++ ((c.ops.take k).map encO).flatten) ++ encO x = Z0 ++ ((c.ops.take (k + 1)).map encO).flatten by rw [flat_snoc hx, List.append_assoc])
    obtain ⟨Z, hZ⟩ : ∃ Z, Z0 ++ ((c.ops.take k).map encO).flatten = Z := ⟨_, rfl⟩
    have hzl : Z.length + (encO x).length ≤ 60000000 := by
      rw [← hZ, List.length_append]
      omega
    rw [hZ] at hS HN
    clear hZ
    have hMx := hM.1.2 x (List.mem_of_getElem? hx)
    obtain ⟨ad, rfl, q0, q1, q2, q3, q4, q5, q6, q7, q8, q9⟩ := kFOp_at r4 k x hx
    have u0 := kept hS.bel q0
    have u1 := kept hS.bel q1
    have u2 := kept hS.bel q2
    have u3 := kept hS.bel q3
    have u4 := kept hS.bel q4
    have u5 := kept hS.bel q5
    have u6 := kept hS.bel q6
    have u7 := kept hS.bel q7
    have u8 := kept hS.bel q8
    have u9 := kept hS.bel q9
    have hXx : (encO x).length = 7 + (encV x.v).length := by unfold encO; simp only [List.length_cons]; omega
    obtain ⟨gx, hgx⟩ : ∃ gx, wr.heap.size = gx := ⟨_, rfl⟩
    have hT := (((hS.madeAt (.cells #[.int .i64 x.op, .int .i64 x.d, .int .i64 x.a, .int .i64 x.b, .int .i64 x.x, .int .i64 x.f, .int .i64 x.p, .int .i64 x.v.k, .int .i64 x.v.n, .string x.v.s] 164 (0, 0)) gx hgx).madeAt (.cells #[.int .i64 x.op, .int .i64 x.d, .int .i64 x.a, .int .i64 x.b, .int .i64 x.x, .int .i64 x.f, .int .i64 x.p] 3 (0, 0)) (gx + 1) (by simp [hgx])).third).second
    clear hx hle q0 q1 q2 q3 q4 q5 q6 q7 q8 q9 hS
    have hS := hT
    clear hT
    go_wp2
    clear x_v u0 u1 u2 u3 u4 u5 u6 u7 u8 u9
    go_loopw [9] (fun i wr => ∃ (j : Nat) (u2 : Value) (F2 : List Nat), j ≤ 7 ∧ i = .int .i64 j ∧ St w (Res.wr 141 (w.heap.size + 1 + 1) 3 u2 (Z ++ ([x.op, x.d, x.a, x.b, x.x, x.f, x.p]).take j) F2 :: (Res.box (gx + 1) (.cells #[.int .i64 x.op, .int .i64 x.d, .int .i64 x.a, .int .i64 x.b, .int .i64 x.x, .int .i64 x.f, .int .i64 x.p] 3 (0, 0)) :: Res.box gx (.cells #[.int .i64 x.op, .int .i64 x.d, .int .i64 x.a, .int .i64 x.b, .int .i64 x.x, .int .i64 x.f, .int .i64 x.p, .int .i64 x.v.k, .int .i64 x.v.n, .string x.v.s] 164 (0, 0)) :: [Res.box (w.heap.size + 1) (.cells #[.int .i64 c.fn, .int .i64 c.entry, .int .i64 c.vals, .int .i64 c.nums, .slice (some ad) c.ops.length c4, .slice A5 c.exits.length c5] 41 (0, 0)), Res.box w.heap.size (.cells #[.slice A t.length c0, .slice B l.length d0] 36 (0, 0))])) wr) (fun i _ => 7 - (intOf i).toNat)
    case atStart => exact ⟨0, _, _, by omega, rfl, by simpa using hS⟩
    case round =>
      clear hS
      obtain ⟨j, u3, F3, hj, rfl, hS⟩ := hrel
      by_cases hjt : j < 7
      rotate_left
      · obtain rfl : j = 7 := by omega
        rw [show ([x.op, x.d, x.a, x.b, x.x, x.f, x.p]).take 7 = [x.op, x.d, x.a, x.b, x.x, x.f, x.p] from rfl] at hS
        have x_x := hS.cell 2 rfl
        go_wp2_with fail
        refine (wValue3 x.v hS (by simp only [List.length_append, List.length_cons, List.length_nil]; omega)).mono ?_
        rintro e y12 ⟨rfl, v12, F12, T12⟩
        try clear x_x
        replace hS := hS.turn 0 rfl T12
        clear T12
        have x_x := trivial
        clear x_x
        go_wp2
        go_roundw
        case rel =>
          have e8 := (hS.front 1 rfl).drop
          have e9 := (e8.front 1 rfl).drop
          exact ⟨k + 1, _, _, by omega, by go_num, by rw [← HN.out]; simpa [encO, List.append_assoc] using e9⟩
        case measure => simp [intOf]; omega
      obtain ⟨z, hz⟩ := get_exU ([x.op, x.d, x.a, x.b, x.x, x.f, x.p]) j (by simpa using hjt)
      have y1 := row_cellW ([x.op, x.d, x.a, x.b, x.x, x.f, x.p]) (hS.cell 1 rfl) j z hz
      have hlj : (List.take j ([x.op, x.d, x.a, x.b, x.x, x.f, x.p])).length ≤ 7 := by rw [List.length_take]; omega
      go_wp2_with fail
      refine (wPut3 z hS (by rw [List.length_append]; omega)).mono ?_
      rintro e w20 ⟨rfl, v20, F20, T20⟩
      clear y1
      replace hS := hS.turn 0 rfl T20
      clear T20
      go_wp2
      go_roundw
      case rel => exact ⟨j + 1, v20, F20, by omega, by go_num, by rw [take_snocW hz, ← List.append_assoc]; exact hS⟩
      case measure => simp [intOf]; omega
end Go.Proofs.YthinhlcfpaaldaaGreat.Dat
