/- DrawAddOf: two values come. -/
import Derived.Test.YtpjdecneeakkeaaDraw
namespace Go.Proofs.Ytpjdecneeakkeaa.Dat
open Go Go.RowKit Go.Proofs.Ytpjdecneeakkeaa.Mem
set_option linter.unusedVariables false
set_option linter.unusedSimpArgs false
set_option maxHeartbeats 2000000 in
theorem openC (A : Option Addr) (c : Nat) (xs : List Int) (w : World) (hr : (Knd.int .u8).Row w A xs.length xs) (hl : xs.length ≤ 1048576) (hb : ∀ b ∈ xs, 0 ≤ b ∧ b < 256) : Calls Try.prog 73 #[.slice A xs.length c] w fun e w' => ∃ g, e = .returned (.pointer (some ⟨g, 0, none⟩)) ∧ w.heap.size ≤ g ∧ CurH w w' g 0 ∧ Below w.heap.size w w' := by
  have hm0 : 0 ≤ (xs.length : Int) % 1000 := Int.emod_nonneg _ (by omega)
  have hm1 : (xs.length : Int) % 1000 < 1000 := Int.emod_lt_of_pos _ (by omega)
  have hS := (St.start w).made (.cells #[.slice A xs.length c, .int .i64 0, .int .i64 (11 + (xs.length : Int) % 1000)] 200 (0, 0))
  go_enter Try.func73, Try.ntmps73
  go_wp2
  go_ret
  exact ⟨w.heap.size, rfl, Nat.le_refl _, ⟨A, c, xs, 0, 11 + (xs.length : Int) % 1000, ⟨Nat.le_refl _, hS.bel, hS.get 0 rfl, hr, hb, hl, by omega, by omega, by omega, by omega⟩, by omega⟩, hS.bel⟩
/-- Two values, of whole numbers and short texts. -/
def TwoC (w : World) (e : Ending) (w' : World) : Prop := ∃ a b : DValue, e = .returned (.tuple #[.agg #[.int .i64 a.k, .int .i64 a.n, .string a.s], .agg #[.int .i64 b.k, .int .i64 b.n, .string b.s]]) ∧ Any a ∧ Any b ∧ Below w.heap.size w w'
set_option maxHeartbeats 4000000 in
set_option maxRecDepth 100000 in
theorem drawC (A : Option Addr) (c : Nat) (xs : List Int) (w : World) (hr : (Knd.int .u8).Row w A xs.length xs) (hl : xs.length ≤ 1048576) (hb : ∀ b ∈ xs, 0 ≤ b ∧ b < 256) : Calls Try.prog 13 #[.slice A xs.length c] w (TwoC w) := by
  have hS := ((St.start w).made (.cells #[.int .i64 0, .int .i64 0, .string (⟨#[]⟩ : ByteArray)] 25 (0, 0))).madeAt (.cells #[.int .i64 0, .int .i64 0, .string (⟨#[]⟩ : ByteArray)] 25 (0, 0)) (w.heap.size + 1) (by simp)
  go_enter Try.func13, Try.ntmps13
  go_wp2_with fail
  refine (openC A c xs _ (hr.below hS.bel) hl hb).mono ?_
  rintro e w1 ⟨g, rfl, hg, hc, hb1⟩
  replace hS := hS.step hb1
  have g2 : w.heap.size + 2 ≤ g := by simpa using hg
  have hcl := hc.lt
  clear hg
  go_wp2_with fail
  refine (valC _ _ g 0 hc (by omega)).mono ?_
  rintro e w2 ⟨a, rfl, ha, hc2, hB2⟩
  have r2 := (hB2.block w.heap.size (hS.blt 1 rfl) (by simp; omega)).trans (hS.get 1 rfl)
  have r3 := (hB2.block (w.heap.size + 1) (hS.blt 0 rfl) (by simp; omega)).trans (hS.get 0 rfl)
  have hW2 : Below w.heap.size w w2 := hB2.below hS.bel (fun q hq => by rw [List.mem_singleton.1 hq]; omega)
  have hbl := (Below.alloc (Below.refl w2.heap.size w2) (Nat.le_refl _) (.cells #[.int .i64 a.k, .int .i64 a.n, .string a.s] 25 (0, 0))).drew
  have hc3 := hc2.below hbl
  have z2 := blk_lt r2
  have z3 := blk_lt r3
  have zg := hc2.lt
  have r5 : (w2.alloc (.cells #[.int .i64 a.k, .int .i64 a.n, .string a.s] 25 (0, 0))).drew.heap[w2.heap.size]? = some (.cells #[.int .i64 a.k, .int .i64 a.n, .string a.s] 25 (0, 0)) := blk_new w2 _
  have x5 := blk_cell r5
  go_wp2
  refine wp_region_held_drew (S := (fun w' => w'.cell? ⟨w2.heap.size, 0, none⟩ = some (.int .i64 a.k) ∧ w'.cell? ⟨w2.heap.size, 1, none⟩ = some (.int .i64 a.n) ∧ w'.cell? ⟨w2.heap.size, 2, none⟩ = some (.string a.s))) (by kernel_rfl) (⟨x5 0, x5 1, x5 2⟩) (fun hHeld => ?_)
  first | (refine regW 0 (v := ?_) rfl (by rfl) (by kernel_rfl) (fun _ _ _ h => h) ?_ (by assumption) ?_; rotate_left; focus (intro w9 hSw; (try dsimp only at hSw); go_simp; (try with_reducible rfl); done)) | refine regU 0 rfl (by rfl) (by kernel_rfl) (fun _ _ _ h => h) (by assumption) ?_ | refine regN 0 rfl (by rfl) (by kernel_rfl) (by assumption) ?_
  try simp only [Act.put, List.setIfInBounds_toArray, List.set_cons_zero, List.set_cons_succ]
  first | (refine regW 1 (v := ?_) rfl (by rfl) (by kernel_rfl) (fun _ _ _ h => h) ?_ (by assumption) ?_; rotate_left; focus (intro w9 hSw; (try dsimp only at hSw); go_simp; (try with_reducible rfl); done)) | refine regU 1 rfl (by rfl) (by kernel_rfl) (fun _ _ _ h => h) (by assumption) ?_ | refine regN 1 rfl (by rfl) (by kernel_rfl) (by assumption) ?_
  try simp only [Act.put, List.setIfInBounds_toArray, List.set_cons_zero, List.set_cons_succ]
  refine regC 2 rfl (by kernel_rfl) (by rfl) (fun Kq hKq => ?_)
  go_simp
  (with_reducible refine (valC _ _ g (0 + 5) hc3 (by omega)).mono ?_)
  rintro e w3 ⟨b, rfl, hbb, hc4, hB3⟩; have r2' := (hB3.block w.heap.size (by have := hbl.size; omega) (by simp; omega)).trans (blk_below r2 z2 hbl); have r3' := (hB3.block (w.heap.size + 1) (by have := hbl.size; omega) (by simp; omega)).trans (blk_below r3 z3 hbl); have r5' := (hB3.block w2.heap.size (blk_lt r5) (by simp; omega)).trans r5; have y2 := blk_cell r2'; have y3 := blk_cell r3'; have y5 := blk_cell r5'; have f2 := blk_frozen r2'; have f3 := blk_frozen r3'; clear x5
  try go_wp2_with fail
  refine hKq.out _ _ (⟨y5 0, y5 1, y5 2⟩) (fun hHeld => ?_)
  clear hKq Kq
  (try simp only [Act.put, List.setIfInBounds_toArray, List.set_cons_zero, List.set_cons_succ])
  have n2 : w.heap.size ≠ w2.heap.size := by omega
  have n3 : w.heap.size + 1 ≠ w2.heap.size := by omega
  have n4 : w.heap.size ≠ w.heap.size + 1 := by omega
  refine regC 3 rfl (by kernel_rfl) (by rfl) (fun Kq hKq => ?_)
  go_simp
  refine hKq.out _ _ (by refine ⟨?_, ?_, ?_⟩ <;> simp [World.cell?_setCell_far, *]) (fun hHeld => ?_)
  clear hKq Kq
  (try simp only [Act.put, List.setIfInBounds_toArray, List.set_cons_zero, List.set_cons_succ])
  refine regC 4 rfl (by kernel_rfl) (by rfl) (fun Kq hKq => ?_)
  go_simp
  refine hKq.out _ _ (by refine ⟨?_, ?_, ?_⟩ <;> simp [World.cell?_setCell_far, *]) (fun hHeld => ?_)
  clear hKq Kq
  (try simp only [Act.put, List.setIfInBounds_toArray, List.set_cons_zero, List.set_cons_succ])
  refine wpAnyH_done (by kernel_rfl) ?_ _
  go_wp2
  refine bodyPost_ret (v := .tuple #[.agg #[.int .i64 a.k, .int .i64 a.n, .string a.s], .agg #[.int .i64 b.k, .int .i64 b.n, .string b.s]]) (by simp [results, Try.results13, go_sem, *]) rfl ⟨a, b, rfl, ha, hbb, ?_⟩
  have hW3 : Below w.heap.size w w3 := hB3.below (bl_step hW2 hbl) (fun q hq => by rw [List.mem_singleton.1 hq]; omega)
  repeat (refine bl_set ?_ (by dsimp only; omega) _)
  exact hW3
end Go.Proofs.Ytpjdecneeakkeaa.Dat
