/- The laws' drawn values: some value comes. -/
import Derived.Test.YtpjdecneeakkeaaPick
import Derived.Test.YtpjdecneeakkeaaK4
namespace Go.Proofs.Ytpjdecneeakkeaa.Dat
open Go Go.RowKit Go.Proofs.Ytpjdecneeakkeaa.Mem
set_option linter.unusedVariables false
set_option linter.unusedSimpArgs false
theorem CurH.below {W0 w w' : World} {g : Nat} {m : Int} (h : CurH W0 w g m) (hb : Below w.heap.size w w') : CurH W0 w' g m := by
  obtain ⟨A, c, xs, p, s, h, hm⟩ := h
  exact ⟨A, c, xs, p, s, ⟨h.ge, bl_step h.bel hb, blk_below h.box (blk_lt h.box) hb, h.row, h.byt, h.len, h.p0, h.p1, h.s0, h.s1⟩, hm⟩
theorem CurH.lt {W0 w : World} {g : Nat} {m : Int} (h : CurH W0 w g m) : g < w.heap.size := by
  obtain ⟨A, c, xs, p, s, h, hm⟩ := h
  exact blk_lt h.box
def NumC (W0 w : World) (g : Nat) (m : Int) (e : Ending) (w' : World) : Prop := ∃ x : Int, e = .returned (.int .i64 x) ∧ (-9223372036854775808 ≤ x ∧ x ≤ 9223372036854775807) ∧ CurH W0 w' g (m + 2) ∧ But [g] w w'
theorem CurH.mono {W0 w : World} {g : Nat} {m m' : Int} (h : CurH W0 w g m) (hm : m ≤ m') : CurH W0 w g m' := by
  obtain ⟨A, c, xs, p, s, h, h2⟩ := h
  exact ⟨A, c, xs, p, s, h, by omega⟩
set_option maxHeartbeats 4000000 in
set_option maxRecDepth 100000 in
theorem numC (W0 w : World) (g : Nat) (m : Int) (h : CurH W0 w g m) (hm : m ≤ 900000000) : Calls Try.prog 163 #[.pointer (some ⟨g, 0, none⟩)] w (NumC W0 w g m) := by
  go_enter Try.func163, Try.ntmps163
  go_wp2_with fail
  refine (pickC W0 _ g m 9 h (by omega) (by omega) (by omega)).mono ?_
  rintro e w1 ⟨x, rfl, hx0, hx1, hc1, hB1⟩
  by_cases x0 : x = 0
  · subst x0
    go_wp2_with fail
    refine (pickC W0 _ g (m + 1) 256 hc1 (by omega) (by omega) (by omega)).mono ?_
    rintro e w2 ⟨y, rfl, hy0, hy1, hc2, hB2⟩
    go_wp2
    go_ret
    exact ⟨y - 128, rfl, by omega, hc2.mono (by omega), hB1.trans hB2⟩
  by_cases x1 : x = 1
  · subst x1
    clear x0
    have hbl := Below.alloc (Below.refl w1.heap.size w1) (Nat.le_refl _) (.cells #[.int .i64 1000000000, .int .i64 (-1000000000), .int .i64 1000000001, .int .i64 (-1000000001), .int .i64 9223372036854775807, .int .i64 (-9223372036854775808), .int .i64 4611686018427387904, .int .i64 31623] 3 (0, 0))
    have hc1' := hc1.below hbl
    have hg := hc1.lt
    go_wp2_with fail
    refine (pickC W0 _ g (m + 1) 8 hc1' (by omega) (by omega) (by omega)).mono ?_
    rintro e w2 ⟨y, rfl, hy0, hy1, hc2, hB2⟩
    have hblk := (hB2.block w1.heap.size (by simp) (by simp; omega)).trans (blk_new w1 _)
    have hcell := blk_cell hblk
    have hBB := hB1.trans ((But.of_below hbl).trans hB2)
    clear hblk hB2 hB1 hbl
    have hy : y = 0 ∨ y = 1 ∨ y = 2 ∨ y = 3 ∨ y = 4 ∨ y = 5 ∨ y = 6 ∨ y = 7 := by omega
    rcases hy with rfl | rfl | rfl | rfl | rfl | rfl | rfl | rfl
    all_goals
      go_wp2
      go_ret
      exact ⟨_, rfl, by omega, hc2.mono (by omega), hBB⟩
  have n0 : (x == 0) = false := by simpa using x0
  have n1 : (x == 1) = false := by simpa using x1
  clear x0 x1
  go_wp2_with fail
  refine (pickC W0 _ g (m + 1) 12 hc1 (by omega) (by omega) (by omega)).mono ?_
  rintro e w2 ⟨y, rfl, hy0, hy1, hc2, hB2⟩
  go_wp2
  go_ret
  exact ⟨y - 3, rfl, by omega, hc2.mono (by omega), hB1.trans hB2⟩
/-! values -/
theorem CurH.setF {W0 w : World} {g r : Nat} {m : Int} (h : CurH W0 w g m) (hr : W0.heap.size ≤ r ∧ g ≠ r) (j : Nat) (v : Value) : CurH W0 (w.setCell ⟨r, j, none⟩ v) g m := by
  obtain ⟨A, c, xs, p, s, h, hm⟩ := h
  exact ⟨A, c, xs, p, s, ⟨h.ge, h.bel.setCell hr.1 _, blk_far h.box hr.2 v, h.row, h.byt, h.len, h.p0, h.p1, h.s0, h.s1⟩, hm⟩
theorem CurH.base {W0 w : World} {g : Nat} {m : Int} (h : CurH W0 w g m) : W0.heap.size ≤ w.heap.size := by
  obtain ⟨A, c, xs, p, s, h, hm⟩ := h
  exact h.bel.size
theorem l04IntC (n : Int) (w : World) : Calls Try.prog 162 #[.int .i64 n] w fun e w' => e = .returned (.agg #[.int .i64 1, .int .i64 n, .string (⟨#[]⟩ : ByteArray)]) ∧ Below w.heap.size w w' := by
  go_enter Try.func162, Try.ntmps162
  go_wp2
  refine bodyPost_ret (v := .agg #[.int .i64 1, .int .i64 n, .string (⟨#[]⟩ : ByteArray)]) (by simp [results, Try.results162, go_sem, true_and, *]) rfl ⟨rfl, (by repeat (first | with_reducible exact Below.refl _ _ | with_reducible assumption | (with_reducible refine bl_set ?_ (by dsimp only; omega) _) | with_reducible refine bl_alloc ?_ _ | with_reducible refine bl_drewN ?_ _ | with_reducible refine bl_drew ?_ | with_reducible refine bl_step ?_ (by with_reducible assumption) | exact Below.refl _ _ | assumption | (refine bl_set ?_ (by dsimp only; omega) _) | refine bl_alloc ?_ _ | refine bl_drewN ?_ _ | refine bl_drew ?_ | refine bl_step ?_ (by assumption)))⟩
/-- Some value, of whole numbers and a short text. -/
structure Any (v : DValue) : Prop where
  k0 : -9223372036854775808 ≤ v.k
  k1 : v.k ≤ 9223372036854775807
  n0 : -9223372036854775808 ≤ v.n
  n1 : v.n ≤ 9223372036854775807
  s : v.s.size ≤ 60
def ValC (W0 w : World) (g : Nat) (m : Int) (e : Ending) (w' : World) : Prop := ∃ v : DValue, e = .returned (.agg #[.int .i64 v.k, .int .i64 v.n, .string v.s]) ∧ Any v ∧ CurH W0 w' g (m + 5) ∧ But [g] w w'
set_option maxHeartbeats 8000000 in
set_option maxRecDepth 100000 in
theorem valC (W0 w : World) (g : Nat) (m : Int) (h : CurH W0 w g m) (hm : m ≤ 800000000) : Calls Try.prog 74 #[.pointer (some ⟨g, 0, none⟩)] w (ValC W0 w g m) := by
  have hbl0 := Below.alloc (Below.refl w.heap.size w) (Nat.le_refl _) (.cells #[.int .i64 0, .int .i64 0, .string (⟨#[]⟩ : ByteArray)] 25 (0, 0))
  have h0 := h.below hbl0
  have hg := h.lt
  have hW := h.base
  have hle : w.heap.size ≤ w.heap.size := Nat.le_refl _
  have hne : g ≠ w.heap.size := by omega
  go_enter Try.func74, Try.ntmps74
  go_wp2_with fail
  refine (pickC W0 _ g m 9 h0 (by omega) (by omega) (by omega)).mono ?_
  rintro e w1 ⟨x, rfl, hx0, hx1, hc1, hB1⟩
  have r1 := (hB1.block w.heap.size (by simp) (by simp; omega)).trans (blk_new w _)
  have B1 := (But.of_below hbl0).trans hB1
  have s1 := B1.size
  have z1 := blk_lt r1
  clear hB1 hbl0 h0
  by_cases x0 : x = 0
  · subst x0
    have xr := blk_cell r1
    have xf := blk_frozen r1
    go_wp2
    refine bodyPost_ret (v := .agg #[.int .i64 0, .int .i64 0, .string (⟨#[]⟩ : ByteArray)]) (by simp [results, Try.results74, go_sem, *]) rfl ⟨⟨0, 0, (⟨#[]⟩ : ByteArray)⟩, rfl, ⟨by dsimp only; decide, by dsimp only; decide, by dsimp only; decide, by dsimp only; decide, by dsimp only; decide⟩, ?_, ?_⟩
    · exact (((hc1.setF ⟨hW, hne⟩ _ _).setF ⟨hW, hne⟩ _ _).setF ⟨hW, hne⟩ _ _).mono (by omega)
    · exact ((B1.set_new hle _ _).set_new hle _ _).set_new hle _ _
  have n0 : (x == 0) = false := by simpa using x0
  by_cases x3 : x ≤ 3
  · have hx3 : x = 1 ∨ x = 2 ∨ x = 3 := by omega
    clear x0 n0 x3
    rcases hx3 with rfl | rfl | rfl
    all_goals
      go_wp2_with fail
      refine (numC W0 _ g (m + 1) (hc1.mono (by omega)) (by omega)).mono ?_
      rintro e w2 ⟨y, rfl, ⟨hy0, hy1⟩, hc2, hB⟩
      have r2 := (hB.block w.heap.size z1 (by simp; omega)).trans r1
      have B2 := B1.trans hB
      have z2 := blk_lt r2
      clear hB
      go_wp2_with fail
      refine (l04IntC y _).mono ?_
      rintro e w3 ⟨rfl, hb⟩
      have hB := But.of_below (F := [g]) hb
      have hc3 := hc2.below hb
      have r3 := (hB.block w.heap.size z2 (by simp; omega)).trans r2
      have B3 := B2.trans hB
      have z3 := blk_lt r3
      clear hB hb
      have xr := blk_cell r3
      have xf := blk_frozen r3
      go_wp2
      refine bodyPost_ret (v := .agg #[.int .i64 1, .int .i64 y, .string (⟨#[]⟩ : ByteArray)]) (by simp [results, Try.results74, go_sem, *]) rfl ⟨⟨1, y, (⟨#[]⟩ : ByteArray)⟩, rfl, ⟨by dsimp only; decide, by dsimp only; decide, hy0, hy1, by dsimp only; decide⟩, ?_, ?_⟩
      · exact (((hc3.setF ⟨hW, hne⟩ _ _).setF ⟨hW, hne⟩ _ _).setF ⟨hW, hne⟩ _ _).mono (by omega)
      · exact ((B3.set_new hle _ _).set_new hle _ _).set_new hle _ _
  have n1 : (x == 1) = false := by simp; omega
  have n2 : (x == 2) = false := by simp; omega
  have n3 : (x == 3) = false := by simp; omega
  by_cases x4 : x = 4
  · subst x4
    go_wp2_with fail
    refine (pickC W0 _ g (m + 1) 2 (hc1.mono (by omega)) (by omega) (by omega) (by omega)).mono ?_
    rintro e w2 ⟨y2, rfl, ya2, yb2, hc2, hB⟩
    have r2 := (hB.block w.heap.size z1 (by simp; omega)).trans r1
    have B2 := B1.trans hB
    have z2 := blk_lt r2
    clear hB
    have xr := blk_cell r2
    have xf := blk_frozen r2
    go_wp2
    refine bodyPost_ret (v := .agg #[.int .i64 2, .int .i64 y2, .string (⟨#[]⟩ : ByteArray)]) (by simp [results, Try.results74, go_sem, *]) rfl ⟨⟨2, y2, (⟨#[]⟩ : ByteArray)⟩, rfl, ⟨by dsimp only; decide, by dsimp only; decide, by show _ ≤ y2; omega, by show y2 ≤ _; omega, by dsimp only; decide⟩, ?_, ?_⟩
    · exact (((hc2.setF ⟨hW, hne⟩ _ _).setF ⟨hW, hne⟩ _ _).setF ⟨hW, hne⟩ _ _).mono (by omega)
    · exact ((B2.set_new hle _ _).set_new hle _ _).set_new hle _ _
  have n4 : (x == 4) = false := by simp; omega
  by_cases x6 : x = 6
  · subst x6
    go_wp2_with fail
    refine (pickC W0 _ g (m + 1) 4 (hc1.mono (by omega)) (by omega) (by omega) (by omega)).mono ?_
    rintro e w2 ⟨y2, rfl, ya2, yb2, hc2, hB⟩
    have r2 := (hB.block w.heap.size z1 (by simp; omega)).trans r1
    have B2 := B1.trans hB
    have z2 := blk_lt r2
    clear hB
    have xr := blk_cell r2
    have xf := blk_frozen r2
    go_wp2
    refine bodyPost_ret (v := .agg #[.int .i64 4, .int .i64 y2, .string (⟨#[]⟩ : ByteArray)]) (by simp [results, Try.results74, go_sem, *]) rfl ⟨⟨4, y2, (⟨#[]⟩ : ByteArray)⟩, rfl, ⟨by dsimp only; decide, by dsimp only; decide, by show _ ≤ y2; omega, by show y2 ≤ _; omega, by dsimp only; decide⟩, ?_, ?_⟩
    · exact (((hc2.setF ⟨hW, hne⟩ _ _).setF ⟨hW, hne⟩ _ _).setF ⟨hW, hne⟩ _ _).mono (by omega)
    · exact ((B2.set_new hle _ _).set_new hle _ _).set_new hle _ _
  have n6 : (x == 6) = false := by simp; omega
  by_cases x7 : x = 7
  · subst x7
    go_wp2_with fail
    refine (pickC W0 _ g (m + 1) 4 (hc1.mono (by omega)) (by omega) (by omega) (by omega)).mono ?_
    rintro e w2 ⟨y2, rfl, ya2, yb2, hc2, hB⟩
    have r2 := (hB.block w.heap.size z1 (by simp; omega)).trans r1
    have B2 := B1.trans hB
    have z2 := blk_lt r2
    clear hB
    have xr := blk_cell r2
    have xf := blk_frozen r2
    go_wp2
    refine bodyPost_ret (v := .agg #[.int .i64 5, .int .i64 y2, .string (⟨#[]⟩ : ByteArray)]) (by simp [results, Try.results74, go_sem, *]) rfl ⟨⟨5, y2, (⟨#[]⟩ : ByteArray)⟩, rfl, ⟨by dsimp only; decide, by dsimp only; decide, by show _ ≤ y2; omega, by show y2 ≤ _; omega, by dsimp only; decide⟩, ?_, ?_⟩
    · exact (((hc2.setF ⟨hW, hne⟩ _ _).setF ⟨hW, hne⟩ _ _).setF ⟨hW, hne⟩ _ _).mono (by omega)
    · exact ((B2.set_new hle _ _).set_new hle _ _).set_new hle _ _
  have n7 : (x == 7) = false := by simp; omega
  by_cases x5 : x = 5
  · subst x5
    have hbl := Below.alloc (Below.refl w1.heap.size w1) (Nat.le_refl _) (.cells #[.string (⟨#[]⟩ : ByteArray), .string (⟨#[97]⟩ : ByteArray), .string (⟨#[98, 99]⟩ : ByteArray), .string (⟨#[48, 49, 50, 51, 52, 53, 54, 55, 56, 57, 48, 49, 50, 51, 52, 53, 54, 55, 56, 57, 48, 49, 50, 51, 52, 53, 54, 55, 56, 57, 48, 49, 50, 51, 52, 53, 54, 55, 56, 57]⟩ : ByteArray)] 9 (0, 0))
    have hcl := hc1.below hbl
    go_wp2_with fail
    refine (pickC W0 _ g (m + 1) 4 (hcl.mono (by omega)) (by omega) (by omega) (by omega)).mono ?_
    rintro e w2 ⟨y2, rfl, ya2, yb2, hc2, hB0⟩
    have hcell := blk_cell ((hB0.block w1.heap.size (by simp) (by simp; have := hc1.lt; omega)).trans (blk_new w1 _))
    have hB := (But.of_below (F := [g]) hbl).trans hB0
    have r2 := (hB.block w.heap.size z1 (by simp; omega)).trans r1
    have B2 := B1.trans hB
    have z2 := blk_lt r2
    clear hB hB0 hbl hcl
    have hy : y2 = 0 ∨ y2 = 1 ∨ y2 = 2 ∨ y2 = 3 := by omega
    rcases hy with rfl | rfl | rfl | rfl
    · skip
      have xr := blk_cell r2
      have xf := blk_frozen r2
      go_wp2
      refine bodyPost_ret (v := .agg #[.int .i64 3, .int .i64 0, .string (⟨#[]⟩ : ByteArray)]) (by simp [results, Try.results74, go_sem, *]) rfl ⟨⟨3, 0, (⟨#[]⟩ : ByteArray)⟩, rfl, ⟨by dsimp only; decide, by dsimp only; decide, by dsimp only; decide, by dsimp only; decide, by dsimp only; decide⟩, ?_, ?_⟩
      · exact (((hc2.setF ⟨hW, hne⟩ _ _).setF ⟨hW, hne⟩ _ _).setF ⟨hW, hne⟩ _ _).mono (by omega)
      · exact ((B2.set_new hle _ _).set_new hle _ _).set_new hle _ _
    · skip
      have xr := blk_cell r2
      have xf := blk_frozen r2
      go_wp2
      refine bodyPost_ret (v := .agg #[.int .i64 3, .int .i64 0, .string (⟨#[97]⟩ : ByteArray)]) (by simp [results, Try.results74, go_sem, *]) rfl ⟨⟨3, 0, (⟨#[97]⟩ : ByteArray)⟩, rfl, ⟨by dsimp only; decide, by dsimp only; decide, by dsimp only; decide, by dsimp only; decide, by dsimp only; decide⟩, ?_, ?_⟩
      · exact (((hc2.setF ⟨hW, hne⟩ _ _).setF ⟨hW, hne⟩ _ _).setF ⟨hW, hne⟩ _ _).mono (by omega)
      · exact ((B2.set_new hle _ _).set_new hle _ _).set_new hle _ _
    · skip
      have xr := blk_cell r2
      have xf := blk_frozen r2
      go_wp2
      refine bodyPost_ret (v := .agg #[.int .i64 3, .int .i64 0, .string (⟨#[98, 99]⟩ : ByteArray)]) (by simp [results, Try.results74, go_sem, *]) rfl ⟨⟨3, 0, (⟨#[98, 99]⟩ : ByteArray)⟩, rfl, ⟨by dsimp only; decide, by dsimp only; decide, by dsimp only; decide, by dsimp only; decide, by dsimp only; decide⟩, ?_, ?_⟩
      · exact (((hc2.setF ⟨hW, hne⟩ _ _).setF ⟨hW, hne⟩ _ _).setF ⟨hW, hne⟩ _ _).mono (by omega)
      · exact ((B2.set_new hle _ _).set_new hle _ _).set_new hle _ _
    · skip
      have xr := blk_cell r2
      have xf := blk_frozen r2
      go_wp2
      refine bodyPost_ret (v := .agg #[.int .i64 3, .int .i64 0, .string (⟨#[48, 49, 50, 51, 52, 53, 54, 55, 56, 57, 48, 49, 50, 51, 52, 53, 54, 55, 56, 57, 48, 49, 50, 51, 52, 53, 54, 55, 56, 57, 48, 49, 50, 51, 52, 53, 54, 55, 56, 57]⟩ : ByteArray)]) (by simp [results, Try.results74, go_sem, *]) rfl ⟨⟨3, 0, (⟨#[48, 49, 50, 51, 52, 53, 54, 55, 56, 57, 48, 49, 50, 51, 52, 53, 54, 55, 56, 57, 48, 49, 50, 51, 52, 53, 54, 55, 56, 57, 48, 49, 50, 51, 52, 53, 54, 55, 56, 57]⟩ : ByteArray)⟩, rfl, ⟨by dsimp only; decide, by dsimp only; decide, by dsimp only; decide, by dsimp only; decide, by dsimp only; decide⟩, ?_, ?_⟩
      · exact (((hc2.setF ⟨hW, hne⟩ _ _).setF ⟨hW, hne⟩ _ _).setF ⟨hW, hne⟩ _ _).mono (by omega)
      · exact ((B2.set_new hle _ _).set_new hle _ _).set_new hle _ _
  have n5 : (x == 5) = false := by simp; omega
  clear x0 x3 x4 x6 x7 x5
  go_wp2_with fail
  refine (pickC W0 _ g (m + 1) 8 (hc1.mono (by omega)) (by omega) (by omega) (by omega)).mono ?_
  rintro e w2 ⟨y2, rfl, ya2, yb2, hc2, hB⟩
  have r2 := (hB.block w.heap.size z1 (by simp; omega)).trans r1
  have B2 := B1.trans hB
  have z2 := blk_lt r2
  clear hB
  go_wp2_with fail
  refine (pickC W0 _ g (m + 2) 4 (hc2.mono (by omega)) (by omega) (by omega) (by omega)).mono ?_
  rintro e w3 ⟨y3, rfl, ya3, yb3, hc3, hB⟩
  have r3 := (hB.block w.heap.size z2 (by simp; omega)).trans r2
  have B3 := B2.trans hB
  have z3 := blk_lt r3
  clear hB
  have hbl := Below.alloc (Below.refl w3.heap.size w3) (Nat.le_refl _) (.cells #[.string (⟨#[]⟩ : ByteArray), .string (⟨#[97]⟩ : ByteArray), .string (⟨#[34]⟩ : ByteArray)] 9 (0, 0))
  have hcl := hc3.below hbl
  go_wp2_with fail
  refine (pickC W0 _ g (m + 3) 3 (hcl.mono (by omega)) (by omega) (by omega) (by omega)).mono ?_
  rintro e w4 ⟨y4, rfl, ya4, yb4, hc4, hB0⟩
  have hcell := blk_cell ((hB0.block w3.heap.size (by simp) (by simp; have := hc3.lt; omega)).trans (blk_new w3 _))
  have hB := (But.of_below (F := [g]) hbl).trans hB0
  have r4 := (hB.block w.heap.size z3 (by simp; omega)).trans r3
  have B4 := B3.trans hB
  have z4 := blk_lt r4
  clear hB hB0 hbl hcl
  have hy : y4 = 0 ∨ y4 = 1 ∨ y4 = 2 := by omega
  rcases hy with rfl | rfl | rfl
  · skip
    have xr := blk_cell r4
    have xf := blk_frozen r4
    go_wp2
    refine bodyPost_ret (v := .agg #[.int .i64 (y2 - 1), .int .i64 (y3 - 1), .string (⟨#[]⟩ : ByteArray)]) (by simp [results, Try.results74, go_sem, *]) rfl ⟨⟨(y2 - 1), (y3 - 1), (⟨#[]⟩ : ByteArray)⟩, rfl, ⟨by show _ ≤ y2 - 1; omega, by show y2 - 1 ≤ _; omega, by show _ ≤ y3 - 1; omega, by show y3 - 1 ≤ _; omega, by dsimp only; decide⟩, ?_, ?_⟩
    · exact (((hc4.setF ⟨hW, hne⟩ _ _).setF ⟨hW, hne⟩ _ _).setF ⟨hW, hne⟩ _ _).mono (by omega)
    · exact ((B4.set_new hle _ _).set_new hle _ _).set_new hle _ _
  · skip
    have xr := blk_cell r4
    have xf := blk_frozen r4
    go_wp2
    refine bodyPost_ret (v := .agg #[.int .i64 (y2 - 1), .int .i64 (y3 - 1), .string (⟨#[97]⟩ : ByteArray)]) (by simp [results, Try.results74, go_sem, *]) rfl ⟨⟨(y2 - 1), (y3 - 1), (⟨#[97]⟩ : ByteArray)⟩, rfl, ⟨by show _ ≤ y2 - 1; omega, by show y2 - 1 ≤ _; omega, by show _ ≤ y3 - 1; omega, by show y3 - 1 ≤ _; omega, by dsimp only; decide⟩, ?_, ?_⟩
    · exact (((hc4.setF ⟨hW, hne⟩ _ _).setF ⟨hW, hne⟩ _ _).setF ⟨hW, hne⟩ _ _).mono (by omega)
    · exact ((B4.set_new hle _ _).set_new hle _ _).set_new hle _ _
  · skip
    have xr := blk_cell r4
    have xf := blk_frozen r4
    go_wp2
    refine bodyPost_ret (v := .agg #[.int .i64 (y2 - 1), .int .i64 (y3 - 1), .string (⟨#[34]⟩ : ByteArray)]) (by simp [results, Try.results74, go_sem, *]) rfl ⟨⟨(y2 - 1), (y3 - 1), (⟨#[34]⟩ : ByteArray)⟩, rfl, ⟨by show _ ≤ y2 - 1; omega, by show y2 - 1 ≤ _; omega, by show _ ≤ y3 - 1; omega, by show y3 - 1 ≤ _; omega, by dsimp only; decide⟩, ?_, ?_⟩
    · exact (((hc4.setF ⟨hW, hne⟩ _ _).setF ⟨hW, hne⟩ _ _).setF ⟨hW, hne⟩ _ _).mono (by omega)
    · exact ((B4.set_new hle _ _).set_new hle _ _).set_new hle _ _
end Go.Proofs.Ytpjdecneeakkeaa.Dat
