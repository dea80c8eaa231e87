/- InsText, in the program and in the reference. -/
import Derived.Test.YtpjdecneeakkeaaDoorTexts
namespace Go.Proofs.YtpjdecneeakkeaaDoor.Dat
open Go Go.RowKit Go.Proofs.YtpjdecneeakkeaaDoor.Mem
set_option linter.unusedVariables false
set_option linter.unusedSimpArgs false
def bareB (op : Int) : Bool := decide (op = 4) || (decide (8 ≤ op ∧ op ≤ 16) || decide (25 ≤ op ∧ op ≤ 26))
theorem bareB_iff (op : Int) : bareB op = true ↔ op = 4 ∨ (8 ≤ op ∧ op ≤ 16) ∨ (25 ≤ op ∧ op ≤ 26) := by simp [bareB]
set_option maxHeartbeats 2000000 in
theorem hasA (op : Int) (w : World) {r : Bool} (h : bareB op = r) : Calls Tryd.prog 36 #[.int .i64 op] w fun e w' => e = .returned (.bool (!r)) ∧ w = w' := by
  have hb := bareB_iff op
  cases r
  · rw [h] at hb
    obtain ⟨n4, n8, n9, n10, n11, n12, n13, n14, n15, n16, n25, n26⟩ : ¬ op = 4 ∧ ¬ op = 8 ∧ ¬ op = 9 ∧ ¬ op = 10 ∧ ¬ op = 11 ∧ ¬ op = 12 ∧ ¬ op = 13 ∧ ¬ op = 14 ∧ ¬ op = 15 ∧ ¬ op = 16 ∧ ¬ op = 25 ∧ ¬ op = 26 := by simp at hb; omega
    clear hb h
    go_enter Tryd.func36, Tryd.ntmps36
    go_wp2
    go_ret
    exact ⟨rfl, rfl⟩
  · have hy : op = 4 ∨ op = 8 ∨ op = 9 ∨ op = 10 ∨ op = 11 ∨ op = 12 ∨ op = 13 ∨ op = 14 ∨ op = 15 ∨ op = 16 ∨ op = 25 ∨ op = 26 := by have := hb.1 h; omega
    clear hb h
    rcases hy with rfl | rfl | rfl | rfl | rfl | rfl | rfl | rfl | rfl | rfl | rfl | rfl <;> (go_enter Tryd.func36, Tryd.ntmps36; go_wp2; go_ret; exact ⟨rfl, rfl⟩)
set_option maxHeartbeats 2000000 in
theorem bare3 (op : Int) (w : World) {r : Bool} (h : bareB op = r) : Calls Tryd.prog 33 #[.int .i64 op] w fun e w' => e = .returned (.bool r) ∧ w = w' := by
  have hb := bareB_iff op
  cases r
  · rw [h] at hb
    obtain ⟨n4, n8, n9, n10, n11, n12, n13, n14, n15, n16, n25, n26⟩ : ¬ op = 4 ∧ ¬ op = 8 ∧ ¬ op = 9 ∧ ¬ op = 10 ∧ ¬ op = 11 ∧ ¬ op = 12 ∧ ¬ op = 13 ∧ ¬ op = 14 ∧ ¬ op = 15 ∧ ¬ op = 16 ∧ ¬ op = 25 ∧ ¬ op = 26 := by simp at hb; omega
    clear hb h
    go_enter Tryd.func33, Tryd.ntmps33
    go_wp2
    go_ret
    exact ⟨rfl, rfl⟩
  · have hy : op = 4 ∨ op = 8 ∨ op = 9 ∨ op = 10 ∨ op = 11 ∨ op = 12 ∨ op = 13 ∨ op = 14 ∨ op = 15 ∨ op = 16 ∨ op = 25 ∨ op = 26 := by have := hb.1 h; omega
    clear hb h
    rcases hy with rfl | rfl | rfl | rfl | rfl | rfl | rfl | rfl | rfl | rfl | rfl | rfl <;> (go_enter Tryd.func33, Tryd.ntmps33; go_wp2; go_ret; exact ⟨rfl, rfl⟩)
def wordL0 : List (List UInt8) := [] :: wordL
theorem words3 (w : World) : Calls Tryd.prog 32 #[] w fun e w' => ∃ g : Nat, e = .returned (.slice (some ⟨g, 0, none⟩) 27 27) ∧ (∀ i l, wordL0[i]? = some l → w'.cell? ⟨g, i, none⟩ = some (.string (txt l))) ∧ Below w.heap.size w w' := by
  go_enter Tryd.func32, Tryd.ntmps32
  go_wp2
  go_ret
  refine ⟨w.heap.size, rfl, fun i l hl => ?_, bl_alloc (Below.refl _ _) _⟩
  rw [blk_cell (blk_new w _) i]
  have e : ∀ l0 : List (List UInt8), l0[i]? = some l → ((l0.map fun l => Value.string (txt l)).toArray)[i]? = some (.string (txt l)) := fun l0 h => by simp [h]
  exact e _ hl
/-- A word. -/
def wordB (n : Nat) : List UInt8 := wordL.getD n []
def insTextN (n : Nat) (a : Int) : List UInt8 := if bareB ((n : Int) + 1) then wordB n else (wordB n ++ [32]) ++ Lib.itoa a
def insTextL (op a : Int) : List UInt8 := if btw op 1 26 then insTextN (op - 1).toNat a else []
theorem wordL_at {n : Nat} (h : n < 26) : wordL[n]? = some (wordB n) := by
  unfold wordB
  rw [List.getD_eq_getElem?_getD, List.getElem?_eq_getElem (show n < wordL.length from h)]
  rfl
theorem wordB_len (n : Nat) : (wordB n).length ≤ 6 := by
  by_cases h : n < 26
  · have : ∀ m : Fin 26, (wordB m.val).length ≤ 6 := by decide +kernel
    exact this ⟨n, h⟩
  · unfold wordB
    rw [List.getD_eq_getElem?_getD, List.getElem?_eq_none (by simp [wordL]; omega)]
    simp
set_option maxHeartbeats 4000000 in
set_option maxRecDepth 100000 in
theorem insTextI (op a : Int) (w : World) (h0 : -9223372036854775808 ≤ a) (h1 : a ≤ 9223372036854775807) (ht : Tab w) (hw : Words w) :
    Calls Tryd.prog 10 #[.agg #[.int .i64 op, .int .i64 a]] w fun e w' => e = .returned (.string (txt (insTextL op a))) ∧ Below w.heap.size w w' := by
  have hS := (St.start w).made (.cells #[.int .i64 op, .int .i64 a] 25 (0, 0))
  cases hr : btw op 1 26
  · have E := Lib.hid (show insTextL op a = [] by unfold insTextL; rw [hr]; rfl)
    have HR := Lib.hid hr
    clear hr
    go_enter Tryd.func10, Tryd.ntmps10
    go_wp2_with fail
    refine (inRange _ HR.out).mono ?_
    rintro e w' ⟨rfl, rfl⟩
    go_wp2
    go_ret
    exact ⟨by rw [E.out]; rfl, (by repeat (first | with_reducible exact Below.refl _ _ | with_reducible assumption | (with_reducible refine bl_set ?_ (by dsimp only; omega) _) | with_reducible refine bl_alloc ?_ _ | with_reducible refine bl_drewN ?_ _ | with_reducible refine bl_drew ?_ | with_reducible refine bl_step ?_ (by with_reducible assumption) | exact Below.refl _ _ | assumption | (refine bl_set ?_ (by dsimp only; omega) _) | refine bl_alloc ?_ _ | refine bl_drewN ?_ _ | refine bl_drew ?_ | refine bl_step ?_ (by assumption)))⟩
  obtain ⟨hop0, hop1⟩ := btw_true.1 hr
  obtain ⟨n, rfl⟩ : ∃ n : Nat, op = (n : Int) + 1 := ⟨(op - 1).toNat, by omega⟩
  have hE : insTextL ((n : Int) + 1) a = insTextN n a := by unfold insTextL; rw [hr, if_pos rfl]; congr 1; omega
  have HR := Lib.hid hr
  clear hr
  have x_w := (hw.below hS.bel).cell n _ (wordL_at (by omega))
  have x_0 := hS.cell 0 rfl
  have hzw := wordB_len n
  cases hb : bareB ((n : Int) + 1)
  · have E := Lib.hid (show insTextL ((n : Int) + 1) a = (wordB n ++ [32]) ++ Lib.itoa a by rw [hE]; unfold insTextN; rw [hb]; rfl)
    have HB := Lib.hid hb
    clear hb hE
    have hzi := Lib.itoa_length_le a h0 h1
    go_enter Tryd.func10, Tryd.ntmps10
    go_wp2_with fail
    refine (inRange _ HR.out).mono ?_
    rintro e w' ⟨rfl, rfl⟩
    go_wp2_with fail
    refine (hasA _ _ HB.out).mono ?_
    rintro e w' ⟨rfl, rfl⟩
    go_wp2
    have hw1 : IntKind.i64.wrap ((n : Int) + 1 - 1) = (n : Int) := by rw [Int.add_sub_cancel]; exact IntWalk.i64_in _ (by omega)
    have hw2 : IntKind.i64.wrap (n : Int) = (n : Int) := IntWalk.i64_in _ (by omega)
    have n2 : n < 26 := by omega
    have n0 : (0 : Int) ≤ (n : Int) := by omega
    have n1 : (n : Int) < 26 := by omega
    have hs1 : (9223372036854775807 < (txt (wordB n)).size + 1) = False := eq_false (by rw [txt_size]; omega)
    have hs2 : (9223372036854775807 < (txt (wordB n)).size + 1 + (txt (Lib.itoa a)).size) = False := eq_false (by rw [txt_size, txt_size]; omega)
    refine wp_region_held_drew (S := (fun w' => w'.cell? ⟨w.heap.size, 0, none⟩ = some (.int .i64 ((n : Int) + 1)) ∧ w'.cell? ⟨w.heap.size, 1, none⟩ = some (.int .i64 a) ∧ w'.cell? ⟨0, n, none⟩ = some (.string (txt (wordB n))))) (by kernel_rfl) (⟨hS.drew.cell 0 rfl 0, hS.drew.cell 0 rfl 1, x_w⟩) (fun hHeld => ?_)
    first | (refine regW 0 (v := ?_) rfl (by rfl) (by kernel_rfl) (fun _ _ _ h => h) ?_ (by assumption) ?_; rotate_left; focus (intro w9 hSw; (try dsimp only at hSw); go_simp; (try with_reducible rfl); done)) | refine regU 0 rfl (by rfl) (by kernel_rfl) (fun _ _ _ h => h) (by assumption) ?_ | refine regN 0 rfl (by rfl) (by kernel_rfl) (by assumption) ?_
    try simp only [Act.put, List.setIfInBounds_toArray, List.set_cons_zero, List.set_cons_succ]
    first | (refine regW 1 (v := ?_) rfl (by rfl) (by kernel_rfl) (fun _ _ _ h => h) ?_ (by assumption) ?_; rotate_left; focus (intro w9 hSw; (try dsimp only at hSw); go_simp; (try with_reducible rfl); done)) | refine regU 1 rfl (by rfl) (by kernel_rfl) (fun _ _ _ h => h) (by assumption) ?_ | refine regN 1 rfl (by rfl) (by kernel_rfl) (by assumption) ?_
    try simp only [Act.put, List.setIfInBounds_toArray, List.set_cons_zero, List.set_cons_succ]
    first | (refine regW 2 (v := ?_) rfl (by rfl) (by kernel_rfl) (fun _ _ _ h => h) ?_ (by assumption) ?_; rotate_left; focus (intro w9 hSw; (try dsimp only at hSw); go_simp; (try with_reducible rfl); done)) | refine regU 2 rfl (by rfl) (by kernel_rfl) (fun _ _ _ h => h) (by assumption) ?_ | refine regN 2 rfl (by rfl) (by kernel_rfl) (by assumption) ?_
    try simp only [Act.put, List.setIfInBounds_toArray, List.set_cons_zero, List.set_cons_succ]
    first | (refine regW 3 (v := ?_) rfl (by rfl) (by kernel_rfl) (fun _ _ _ h => h) ?_ (by assumption) ?_; rotate_left; focus (intro w9 hSw; (try dsimp only at hSw); go_simp; (try with_reducible rfl); done)) | refine regU 3 rfl (by rfl) (by kernel_rfl) (fun _ _ _ h => h) (by assumption) ?_ | refine regN 3 rfl (by rfl) (by kernel_rfl) (by assumption) ?_
    try simp only [Act.put, List.setIfInBounds_toArray, List.set_cons_zero, List.set_cons_succ]
    first | (refine regW 4 (v := ?_) rfl (by rfl) (by kernel_rfl) (fun _ _ _ h => h) ?_ (by assumption) ?_; rotate_left; focus (intro w9 hSw; (try dsimp only at hSw); go_simp; (try with_reducible rfl); done)) | refine regU 4 rfl (by rfl) (by kernel_rfl) (fun _ _ _ h => h) (by assumption) ?_ | refine regN 4 rfl (by rfl) (by kernel_rfl) (by assumption) ?_
    try simp only [Act.put, List.setIfInBounds_toArray, List.set_cons_zero, List.set_cons_succ]
    first | (refine regW 5 (v := ?_) rfl (by rfl) (by kernel_rfl) (fun _ _ _ h => h) ?_ (by assumption) ?_; rotate_left; focus (intro w9 hSw; (try dsimp only at hSw); go_simp; (try with_reducible rfl); done)) | refine regU 5 rfl (by rfl) (by kernel_rfl) (fun _ _ _ h => h) (by assumption) ?_ | refine regN 5 rfl (by rfl) (by kernel_rfl) (by assumption) ?_
    try simp only [Act.put, List.setIfInBounds_toArray, List.set_cons_zero, List.set_cons_succ]
    first | (refine regW 6 (v := ?_) rfl (by rfl) (by kernel_rfl) (fun _ _ _ h => h) ?_ (by assumption) ?_; rotate_left; focus (intro w9 hSw; (try dsimp only at hSw); go_simp; (try with_reducible rfl); done)) | refine regU 6 rfl (by rfl) (by kernel_rfl) (fun _ _ _ h => h) (by assumption) ?_ | refine regN 6 rfl (by rfl) (by kernel_rfl) (by assumption) ?_
    try simp only [Act.put, List.setIfInBounds_toArray, List.set_cons_zero, List.set_cons_succ]
    first | (refine regW 7 (v := ?_) rfl (by rfl) (by kernel_rfl) (fun _ _ _ h => h) ?_ (by assumption) ?_; rotate_left; focus (intro w9 hSw; (try dsimp only at hSw); go_simp; (try with_reducible rfl); done)) | refine regU 7 rfl (by rfl) (by kernel_rfl) (fun _ _ _ h => h) (by assumption) ?_ | refine regN 7 rfl (by rfl) (by kernel_rfl) (by assumption) ?_
    try simp only [Act.put, List.setIfInBounds_toArray, List.set_cons_zero, List.set_cons_succ]
    refine regC 8 rfl (by kernel_rfl) (by rfl) (fun Kq hKq => ?_)
    go_simp
    (with_reducible refine (itoaI a h0 h1 _ (ht.below hS.drew.bel)).mono ?_)
    rintro e w2 ⟨rfl, hb2⟩; have hS2 := hS.drew.step hb2
    try go_wp2_with fail
    refine hKq.out _ _ (⟨hS2.cell 0 rfl 0, hS2.cell 0 rfl 1, kept hb2 x_w⟩) (fun hHeld => ?_)
    clear hKq Kq
    (try simp only [Act.put, List.setIfInBounds_toArray, List.set_cons_zero, List.set_cons_succ])
    first | (refine regW 9 (v := ?_) rfl (by rfl) (by kernel_rfl) (fun _ _ _ h => h) ?_ (by assumption) ?_; rotate_left; focus (intro w9 hSw; (try dsimp only at hSw); go_simp; (try with_reducible rfl); done)) | refine regU 9 rfl (by rfl) (by kernel_rfl) (fun _ _ _ h => h) (by assumption) ?_ | refine regN 9 rfl (by rfl) (by kernel_rfl) (by assumption) ?_
    try simp only [Act.put, List.setIfInBounds_toArray, List.set_cons_zero, List.set_cons_succ]
    first | (refine regW 10 (v := ?_) rfl (by rfl) (by kernel_rfl) (fun _ _ _ h => h) ?_ (by assumption) ?_; rotate_left; focus (intro w9 hSw; (try dsimp only at hSw); go_simp; (try with_reducible rfl); done)) | refine regU 10 rfl (by rfl) (by kernel_rfl) (fun _ _ _ h => h) (by assumption) ?_ | refine regN 10 rfl (by rfl) (by kernel_rfl) (by assumption) ?_
    try simp only [Act.put, List.setIfInBounds_toArray, List.set_cons_zero, List.set_cons_succ]
    refine wpAnyH_done (by kernel_rfl) ?_ _
    clear hHeld
    go_wp2
    go_ret
    exact ⟨by rw [E.out]; exact congrArg (fun x => Ending.returned (Value.string x)) (show txt (wordB n) ++ (⟨#[32]⟩ : ByteArray) ++ txt (Lib.itoa a) = _ by rw [txt_lit (l := [32]) rfl, txt_app, txt_app]), hS2.bel⟩
  · have E := Lib.hid (show insTextL ((n : Int) + 1) a = wordB n by rw [hE]; unfold insTextN; rw [hb, if_pos rfl])
    have HB := Lib.hid hb
    clear hb hE
    go_enter Tryd.func10, Tryd.ntmps10
    go_wp2_with fail
    refine (inRange _ HR.out).mono ?_
    rintro e w' ⟨rfl, rfl⟩
    go_wp2_with fail
    refine (hasA _ _ HB.out).mono ?_
    rintro e w' ⟨rfl, rfl⟩
    go_wp2
    go_ret
    exact ⟨by rw [E.out]; rfl, (by repeat (first | with_reducible exact Below.refl _ _ | with_reducible assumption | (with_reducible refine bl_set ?_ (by dsimp only; omega) _) | with_reducible refine bl_alloc ?_ _ | with_reducible refine bl_drewN ?_ _ | with_reducible refine bl_drew ?_ | with_reducible refine bl_step ?_ (by with_reducible assumption) | exact Below.refl _ _ | assumption | (refine bl_set ?_ (by dsimp only; omega) _) | refine bl_alloc ?_ _ | refine bl_drewN ?_ _ | refine bl_drew ?_ | refine bl_step ?_ (by assumption)))⟩
set_option maxHeartbeats 4000000 in
set_option maxRecDepth 100000 in
theorem insText3 (op a : Int) (w : World) (h0 : -9223372036854775808 ≤ a) (h1 : a ≤ 9223372036854775807) :
    Calls Tryd.prog 8 #[.agg #[.int .i64 op, .int .i64 a]] w fun e w' => e = .returned (.string (txt (insTextL op a))) ∧ Below w.heap.size w w' := by
  have hS := (St.start w).made (.cells #[.int .i64 op, .int .i64 a] 25 (0, 0))
  cases hr : btw op 1 26
  · have E := Lib.hid (show insTextL op a = [] by unfold insTextL; rw [hr]; rfl)
    have HR := Lib.hid hr
    clear hr
    go_enter Tryd.func8, Tryd.ntmps8
    go_wp2_with fail
    refine (between _ HR.out).mono ?_
    rintro e w' ⟨rfl, rfl⟩
    go_wp2
    go_ret
    exact ⟨by rw [E.out]; rfl, (by repeat (first | with_reducible exact Below.refl _ _ | with_reducible assumption | (with_reducible refine bl_set ?_ (by dsimp only; omega) _) | with_reducible refine bl_alloc ?_ _ | with_reducible refine bl_drewN ?_ _ | with_reducible refine bl_drew ?_ | with_reducible refine bl_step ?_ (by with_reducible assumption) | exact Below.refl _ _ | assumption | (refine bl_set ?_ (by dsimp only; omega) _) | refine bl_alloc ?_ _ | refine bl_drewN ?_ _ | refine bl_drew ?_ | refine bl_step ?_ (by assumption)))⟩
  obtain ⟨hop0, hop1⟩ := btw_true.1 hr
  obtain ⟨n, rfl⟩ : ∃ n : Nat, op = (n : Int) + 1 := ⟨(op - 1).toNat, by omega⟩
  have hE : insTextL ((n : Int) + 1) a = insTextN n a := by unfold insTextL; rw [hr, if_pos rfl]; congr 1; omega
  have HR := Lib.hid hr
  clear hr
  have hwl : wordL0[n + 1]? = some (wordB n) := wordL_at (by omega)
  have HW := Lib.hid hwl
  clear hwl
  have hzw := wordB_len n
  have n0 : (0 : Int) ≤ (n : Int) + 1 := by omega
  have n1 : (n : Int) + 1 < 27 := by omega
  have n3 : n + 1 < 27 := by omega
  have n4 : ((n : Int) + 1).toNat = n + 1 := by omega
  have hSd := hS.drew
  go_enter Tryd.func8, Tryd.ntmps8
  go_wp2_with fail
  refine (between _ HR.out).mono ?_
  rintro e w' ⟨rfl, rfl⟩
  go_wp2
  refine wp_region_held_drew (S := (fun w' => w'.cell? ⟨w.heap.size, 0, none⟩ = some (.int .i64 ((n : Int) + 1)))) (by kernel_rfl) (hSd.cell 0 rfl 0) (fun hHeld => ?_)
  first | (refine regW 1 (v := ?_) rfl (by rfl) (by kernel_rfl) (fun _ _ _ h => h) ?_ (by assumption) ?_; rotate_left; focus (intro w9 hSw; (try dsimp only at hSw); go_simp; (try with_reducible rfl); done)) | refine regU 1 rfl (by rfl) (by kernel_rfl) (fun _ _ _ h => h) (by assumption) ?_ | refine regN 1 rfl (by rfl) (by kernel_rfl) (by assumption) ?_
  try simp only [Act.put, List.setIfInBounds_toArray, List.set_cons_zero, List.set_cons_succ]
  first | (refine regW 2 (v := ?_) rfl (by rfl) (by kernel_rfl) (fun _ _ _ h => h) ?_ (by assumption) ?_; rotate_left; focus (intro w9 hSw; (try dsimp only at hSw); go_simp; (try with_reducible rfl); done)) | refine regU 2 rfl (by rfl) (by kernel_rfl) (fun _ _ _ h => h) (by assumption) ?_ | refine regN 2 rfl (by rfl) (by kernel_rfl) (by assumption) ?_
  try simp only [Act.put, List.setIfInBounds_toArray, List.set_cons_zero, List.set_cons_succ]
  refine regC 0 rfl (by kernel_rfl) (by rfl) (fun Kq hKq => ?_)
  go_simp
  (with_reducible refine (words3 _).mono ?_)
  rintro e w2 ⟨g, rfl, hg, hb2⟩; have hS2 := hSd.step hb2; have x_g := hg _ _ HW.out
  try go_wp2_with fail
  refine hKq.out _ _ (hS2.cell 0 rfl 0) (fun hHeld => ?_)
  clear hKq Kq
  (try simp only [Act.put, List.setIfInBounds_toArray, List.set_cons_zero, List.set_cons_succ])
  first | (refine regW 3 (v := ?_) rfl (by rfl) (by kernel_rfl) (fun _ _ _ h => h) ?_ (by assumption) ?_; rotate_left; focus (intro w9 hSw; (try dsimp only at hSw); go_simp; (try with_reducible rfl); done)) | refine regU 3 rfl (by rfl) (by kernel_rfl) (fun _ _ _ h => h) (by assumption) ?_ | refine regN 3 rfl (by rfl) (by kernel_rfl) (by assumption) ?_
  try simp only [Act.put, List.setIfInBounds_toArray, List.set_cons_zero, List.set_cons_succ]
  refine regC 4 rfl (by kernel_rfl) (by rfl) (fun Kq hKq => ?_)
  go_simp
  refine hKq.out _ _ (hS2.cell 0 rfl 0) (fun hHeld => ?_)
  clear hKq Kq
  (try simp only [Act.put, List.setIfInBounds_toArray, List.set_cons_zero, List.set_cons_succ])
  first | (refine regW 5 (v := ?_) rfl (by rfl) (by kernel_rfl) (fun _ _ _ h => h) ?_ (by assumption) ?_; rotate_left; focus (intro w9 hSw; (try dsimp only at hSw); go_simp; (try with_reducible rfl); done)) | refine regU 5 rfl (by rfl) (by kernel_rfl) (fun _ _ _ h => h) (by assumption) ?_ | refine regN 5 rfl (by rfl) (by kernel_rfl) (by assumption) ?_
  try simp only [Act.put, List.setIfInBounds_toArray, List.set_cons_zero, List.set_cons_succ]
  refine wpAnyH_done (by kernel_rfl) ?_ _
  clear hHeld
  have x_0 := hS2.cell 0 rfl
  cases hb : bareB ((n : Int) + 1)
  · have E := Lib.hid (show insTextL ((n : Int) + 1) a = (wordB n ++ [32]) ++ Lib.itoa a by rw [hE]; unfold insTextN; rw [hb]; rfl)
    have HB := Lib.hid hb
    clear hb hE
    have hzi := Lib.itoa_length_le a h0 h1
    have hs0 := txt_size (wordB n)
    have hs9 := txt_size (Lib.itoa a)
    go_wp2_with fail
    refine (bare3 _ _ HB.out).mono ?_
    rintro e w' ⟨rfl, rfl⟩
    go_wp2_with fail
    refine (dig3 a h0 h1 _).mono ?_
    rintro e w3 ⟨rfl, hb3⟩
    go_wp2
    go_ret
    exact ⟨by rw [E.out]; exact congrArg (fun x => Ending.returned (Value.string x)) (show txt (wordB n) ++ (⟨#[32]⟩ : ByteArray) ++ txt (Lib.itoa a) = _ by rw [txt_lit (l := [32]) rfl, txt_app, txt_app]), (hS2.step hb3).bel⟩
  · have E := Lib.hid (show insTextL ((n : Int) + 1) a = wordB n by rw [hE]; unfold insTextN; rw [hb, if_pos rfl])
    have HB := Lib.hid hb
    clear hb hE
    go_wp2_with fail
    refine (bare3 _ _ HB.out).mono ?_
    rintro e w' ⟨rfl, rfl⟩
    go_wp2
    go_ret
    exact ⟨by rw [E.out]; rfl, hS2.bel⟩
theorem wf64 {b : Int} (h : (Lit.int .i64 b).wf = true) : -9223372036854775808 ≤ b ∧ b ≤ 9223372036854775807 := by
  have h1 : (decide (IntKind.i64.min ≤ b) && decide (b ≤ IntKind.i64.max)) = true := h
  have e1 : IntKind.i64.min = -9223372036854775808 := by kernel_rfl
  have e2 : IntKind.i64.max = 9223372036854775807 := by kernel_rfl
  rw [e1, e2, Bool.and_eq_true, decide_eq_true_iff, decide_eq_true_iff] at h1
  exact h1
/-- The law of InsText. -/
theorem lawInsText (op a : Int) (w : World) (h0 : (Lit.int .i64 op).wf = true) (h1 : (Lit.int .i64 a).wf = true) (ht : Tab w) (hw : Words w) :
    Calls Tryd.prog 3 #[.agg #[.int .i64 op, .int .i64 a]] w fun e w' => e = .returned (.bool true) ∧ Below w.heap.size w w' := by
  have hS := (St.start w).made (.cells #[.int .i64 op, .int .i64 a] 23 (0, 0))
  obtain ⟨a0, a1⟩ := wf64 h1
  clear h0 h1
  generalize hX : insTextL op a = X
  have CI := fun W h h' => insTextI op a W a0 a1 h h'
  have CS := fun W => insText3 op a W a0 a1
  rw [hX] at CI CS
  clear hX
  go_enter Tryd.func3, Tryd.ntmps3
  go_wp2_with fail
  refine (toIns op a _).mono ?_
  rintro e w1 ⟨rfl, hb⟩
  replace hS := hS.step hb
  go_wp2_with fail
  refine (CS _).mono ?_
  rintro e w2 ⟨rfl, hb⟩
  replace hS := hS.step hb
  have x_0 := hS.cell 0 rfl
  go_wp2_with fail
  refine (toIns op a _).mono ?_
  rintro e w3 ⟨rfl, hb⟩
  replace hS := hS.step hb
  clear x_0
  go_wp2_with fail
  refine (CI _ (ht.below hS.bel) (hw.below hS.bel)).mono ?_
  rintro e w4 ⟨rfl, hb⟩
  replace hS := hS.step hb
  go_wp2
  go_ret
  exact ⟨rfl, hS.bel⟩
end Go.Proofs.YtpjdecneeakkeaaDoor.Dat
