/- The line of an act in the reference. -/
import Derived.Test.YtpjdecneeakkeaaDoorActT
namespace Go.Proofs.YtpjdecneeakkeaaDoor.Dat
open Go Go.RowKit Go.Proofs.YtpjdecneeakkeaaDoor.Mem
set_option linter.unusedVariables false
set_option linter.unusedSimpArgs false
set_option maxHeartbeats 8000000 in
set_option maxRecDepth 100000 in
theorem line18 (A : Option Addr) (c : Nat) (x : DAct) (w : World) (hi : ActI x) (hr : kSite.Row w A x.sites.length x.sites) (hm : x.sites.length ≤ 1000) {X : List UInt8} (hX : lineL x = X) :
    Calls Tryd.prog 46 #[.agg #[.int .i64 x.kind, .int .i64 x.a, .int .i64 x.b, .int .i64 x.lay, .bool x.bare, .slice A x.sites.length c]] w fun e w' => e = .returned (.string (txt X)) ∧ Below w.heap.size w w' := by
  obtain ⟨k, a, b, y, bare, sites⟩ := x
  obtain ⟨ia, ib, iy, is⟩ := hi
  dsimp only at ia ib iy is hr hm ⊢
  subst hX
  have za := Lib.itoa_length_le a ia.lo ia.hi
  have zb := Lib.itoa_length_le b ib.lo ib.hi
  have zy := Lib.itoa_length_le y iy.lo iy.hi
  obtain ⟨how, hhow⟩ : ∃ how, [32] ++ bareL bare = how := ⟨_, rfl⟩
  have zh : how.length = 5 := by rw [← hhow, List.length_append, bareL_len]; rfl
  have HW := Lib.hid hhow
  have hS := (St.start w).made (.cells #[.int .i64 k, .int .i64 a, .int .i64 b, .int .i64 y, .bool bare, .slice A sites.length c] 90 (0, 0))
  by_cases k1 : k = 1
  · subst k1
    have E := Lib.hid (show lineL ⟨1, a, b, y, bare, sites⟩ = [114, 117, 110, 32] ++ Lib.itoa a by unfold lineL; dsimp only; rw [if_pos rfl])
    have ya := txt_size (Lib.itoa a)
    clear hhow
    cases bare <;> (
      go_enter Tryd.func46, Tryd.ntmps46
      go_wp2_with fail
      refine (dig3 a ia.lo ia.hi _).mono ?_
      rintro e w2 ⟨rfl, hb⟩
      go_wp2
      go_ret
      exact ⟨by rw [E.out, ← txt_app]; rfl, (hS.step hb).bel⟩)
  by_cases k4 : k = 4
  · subst k4
    have E := Lib.hid (show lineL ⟨4, a, b, y, bare, sites⟩ = [100, 114, 111, 112, 32] ++ Lib.itoa a by unfold lineL; dsimp only; rw [if_neg (by decide), if_neg (by decide), if_neg (by decide), if_pos rfl])
    have ya := txt_size (Lib.itoa a)
    clear hhow
    cases bare <;> (
      go_enter Tryd.func46, Tryd.ntmps46
      go_wp2_with fail
      refine (dig3 a ia.lo ia.hi _).mono ?_
      rintro e w2 ⟨rfl, hb⟩
      go_wp2
      go_ret
      exact ⟨by rw [E.out, ← txt_app]; rfl, (hS.step hb).bel⟩)
  by_cases k2 : k = 2
  · subst k2
    have E := Lib.hid (show lineL ⟨2, a, b, y, bare, sites⟩ = ((([116, 105, 101, 114, 32] ++ Lib.itoa a) ++ [32]) ++ Lib.itoa y) ++ how by unfold lineL itoas; dsimp only; rw [if_neg (by decide), if_pos rfl]; simp only [List.map_cons, List.map_nil]; rw [join2, ← HW.out]; simp)
    clear hhow zh
    cases bare
    · go_enter Tryd.func46, Tryd.ntmps46
      go_wp2
      have hs1 : (9223372036854775807 < 5 + (txt (Lib.itoa a)).size) = False := eq_false (by rw [txt_size]; omega)
      have hs2 : (9223372036854775807 < 5 + (txt (Lib.itoa a)).size + 1) = False := eq_false (by rw [txt_size]; omega)
      have hs3 : (9223372036854775807 < 5 + (txt (Lib.itoa a)).size + 1 + (txt (Lib.itoa y)).size) = False := eq_false (by rw [txt_size, txt_size]; omega)
      have hs4 : (9223372036854775807 < 5 + (txt (Lib.itoa a)).size + 1 + (txt (Lib.itoa y)).size + 5) = False := eq_false (by rw [txt_size, txt_size]; omega)
      refine wp_region_held_drew (S := (fun w' => w'.cell? ⟨w.heap.size, 1, none⟩ = some (.int .i64 a) ∧ w'.cell? ⟨w.heap.size, 3, none⟩ = some (.int .i64 y))) (by kernel_rfl) (⟨hS.drew.cell 0 rfl 1, hS.drew.cell 0 rfl 3⟩) (fun hHeld => ?_)
      first | (refine regW 0 (v := ?_) rfl (by rfl) (by kernel_rfl) (fun _ _ _ h => h) ?_ (by assumption) ?_; rotate_left; focus (intro w9 hSw; (try dsimp only at hSw); go_simp; (try with_reducible rfl); done)) | refine regU 0 rfl (by rfl) (by kernel_rfl) (fun _ _ _ h => h) (by assumption) ?_ | refine regN 0 rfl (by rfl) (by kernel_rfl) (by assumption) ?_
      try simp only [Act.put, List.setIfInBounds_toArray, List.set_cons_zero, List.set_cons_succ]
      first | (refine regW 1 (v := ?_) rfl (by rfl) (by kernel_rfl) (fun _ _ _ h => h) ?_ (by assumption) ?_; rotate_left; focus (intro w9 hSw; (try dsimp only at hSw); go_simp; (try with_reducible rfl); done)) | refine regU 1 rfl (by rfl) (by kernel_rfl) (fun _ _ _ h => h) (by assumption) ?_ | refine regN 1 rfl (by rfl) (by kernel_rfl) (by assumption) ?_
      try simp only [Act.put, List.setIfInBounds_toArray, List.set_cons_zero, List.set_cons_succ]
      first | (refine regW 5 (v := ?_) rfl (by rfl) (by kernel_rfl) (fun _ _ _ h => h) ?_ (by assumption) ?_; rotate_left; focus (intro w9 hSw; (try dsimp only at hSw); go_simp; (try with_reducible rfl); done)) | refine regU 5 rfl (by rfl) (by kernel_rfl) (fun _ _ _ h => h) (by assumption) ?_ | refine regN 5 rfl (by rfl) (by kernel_rfl) (by assumption) ?_
      try simp only [Act.put, List.setIfInBounds_toArray, List.set_cons_zero, List.set_cons_succ]
      first | (refine regW 6 (v := ?_) rfl (by rfl) (by kernel_rfl) (fun _ _ _ h => h) ?_ (by assumption) ?_; rotate_left; focus (intro w9 hSw; (try dsimp only at hSw); go_simp; (try with_reducible rfl); done)) | refine regU 6 rfl (by rfl) (by kernel_rfl) (fun _ _ _ h => h) (by assumption) ?_ | refine regN 6 rfl (by rfl) (by kernel_rfl) (by assumption) ?_
      try simp only [Act.put, List.setIfInBounds_toArray, List.set_cons_zero, List.set_cons_succ]
      first | (refine regW 9 (v := ?_) rfl (by rfl) (by kernel_rfl) (fun _ _ _ h => h) ?_ (by assumption) ?_; rotate_left; focus (intro w9 hSw; (try dsimp only at hSw); go_simp; (try with_reducible rfl); done)) | refine regU 9 rfl (by rfl) (by kernel_rfl) (fun _ _ _ h => h) (by assumption) ?_ | refine regN 9 rfl (by rfl) (by kernel_rfl) (by assumption) ?_
      try simp only [Act.put, List.setIfInBounds_toArray, List.set_cons_zero, List.set_cons_succ]
      refine regC 2 rfl (by kernel_rfl) (by rfl) (fun Kq hKq => ?_)
      go_simp
      (with_reducible refine (dig3 a ia.lo ia.hi _).mono ?_)
      rintro e w2 ⟨rfl, hb2⟩; have hT0 := (hS.drew).step hb2
      try go_wp2_with fail
      refine hKq.out _ _ (⟨hT0.cell 0 rfl 1, hT0.cell 0 rfl 3⟩) (fun hHeld => ?_)
      clear hKq Kq
      (try simp only [Act.put, List.setIfInBounds_toArray, List.set_cons_zero, List.set_cons_succ])
      first | (refine regW 3 (v := ?_) rfl (by rfl) (by kernel_rfl) (fun _ _ _ h => h) ?_ (by assumption) ?_; rotate_left; focus (intro w9 hSw; (try dsimp only at hSw); go_simp; (try with_reducible rfl); done)) | refine regU 3 rfl (by rfl) (by kernel_rfl) (fun _ _ _ h => h) (by assumption) ?_ | refine regN 3 rfl (by rfl) (by kernel_rfl) (by assumption) ?_
      try simp only [Act.put, List.setIfInBounds_toArray, List.set_cons_zero, List.set_cons_succ]
      first | (refine regW 4 (v := ?_) rfl (by rfl) (by kernel_rfl) (fun _ _ _ h => h) ?_ (by assumption) ?_; rotate_left; focus (intro w9 hSw; (try dsimp only at hSw); go_simp; (try with_reducible rfl); done)) | refine regU 4 rfl (by rfl) (by kernel_rfl) (fun _ _ _ h => h) (by assumption) ?_ | refine regN 4 rfl (by rfl) (by kernel_rfl) (by assumption) ?_
      try simp only [Act.put, List.setIfInBounds_toArray, List.set_cons_zero, List.set_cons_succ]
      refine regC 7 rfl (by kernel_rfl) (by rfl) (fun Kq hKq => ?_)
      go_simp
      (with_reducible refine (dig3 y iy.lo iy.hi _).mono ?_)
      rintro e w3 ⟨rfl, hb3⟩; have hT1 := (hT0).step hb3
      try go_wp2_with fail
      refine hKq.out _ _ (⟨hT1.cell 0 rfl 1, hT1.cell 0 rfl 3⟩) (fun hHeld => ?_)
      clear hKq Kq
      (try simp only [Act.put, List.setIfInBounds_toArray, List.set_cons_zero, List.set_cons_succ])
      first | (refine regW 8 (v := ?_) rfl (by rfl) (by kernel_rfl) (fun _ _ _ h => h) ?_ (by assumption) ?_; rotate_left; focus (intro w9 hSw; (try dsimp only at hSw); go_simp; (try with_reducible rfl); done)) | refine regU 8 rfl (by rfl) (by kernel_rfl) (fun _ _ _ h => h) (by assumption) ?_ | refine regN 8 rfl (by rfl) (by kernel_rfl) (by assumption) ?_
      try simp only [Act.put, List.setIfInBounds_toArray, List.set_cons_zero, List.set_cons_succ]
      first | (refine regW 10 (v := ?_) rfl (by rfl) (by kernel_rfl) (fun _ _ _ h => h) ?_ (by assumption) ?_; rotate_left; focus (intro w9 hSw; (try dsimp only at hSw); go_simp; (try with_reducible rfl); done)) | refine regU 10 rfl (by rfl) (by kernel_rfl) (fun _ _ _ h => h) (by assumption) ?_ | refine regN 10 rfl (by rfl) (by kernel_rfl) (by assumption) ?_
      try simp only [Act.put, List.setIfInBounds_toArray, List.set_cons_zero, List.set_cons_succ]
      first | (refine regW 11 (v := ?_) rfl (by rfl) (by kernel_rfl) (fun _ _ _ h => h) ?_ (by assumption) ?_; rotate_left; focus (intro w9 hSw; (try dsimp only at hSw); go_simp; (try with_reducible rfl); done)) | refine regU 11 rfl (by rfl) (by kernel_rfl) (fun _ _ _ h => h) (by assumption) ?_ | refine regN 11 rfl (by rfl) (by kernel_rfl) (by assumption) ?_
      try simp only [Act.put, List.setIfInBounds_toArray, List.set_cons_zero, List.set_cons_succ]
      refine wpAnyH_done (by kernel_rfl) ?_ _
      clear hHeld
      go_wp2
      go_ret
      exact ⟨by rw [E.out, ← HW.out]; simp only [← txt_app]; rfl, hT1.bel⟩
    · go_enter Tryd.func46, Tryd.ntmps46
      go_wp2
      have hs1 : (9223372036854775807 < 5 + (txt (Lib.itoa a)).size) = False := eq_false (by rw [txt_size]; omega)
      have hs2 : (9223372036854775807 < 5 + (txt (Lib.itoa a)).size + 1) = False := eq_false (by rw [txt_size]; omega)
      have hs3 : (9223372036854775807 < 5 + (txt (Lib.itoa a)).size + 1 + (txt (Lib.itoa y)).size) = False := eq_false (by rw [txt_size, txt_size]; omega)
      have hs4 : (9223372036854775807 < 5 + (txt (Lib.itoa a)).size + 1 + (txt (Lib.itoa y)).size + 5) = False := eq_false (by rw [txt_size, txt_size]; omega)
      refine wp_region_held_drew (S := (fun w' => w'.cell? ⟨w.heap.size, 1, none⟩ = some (.int .i64 a) ∧ w'.cell? ⟨w.heap.size, 3, none⟩ = some (.int .i64 y))) (by kernel_rfl) (⟨hS.drew.cell 0 rfl 1, hS.drew.cell 0 rfl 3⟩) (fun hHeld => ?_)
      first | (refine regW 0 (v := ?_) rfl (by rfl) (by kernel_rfl) (fun _ _ _ h => h) ?_ (by assumption) ?_; rotate_left; focus (intro w9 hSw; (try dsimp only at hSw); go_simp; (try with_reducible rfl); done)) | refine regU 0 rfl (by rfl) (by kernel_rfl) (fun _ _ _ h => h) (by assumption) ?_ | refine regN 0 rfl (by rfl) (by kernel_rfl) (by assumption) ?_
      try simp only [Act.put, List.setIfInBounds_toArray, List.set_cons_zero, List.set_cons_succ]
      first | (refine regW 1 (v := ?_) rfl (by rfl) (by kernel_rfl) (fun _ _ _ h => h) ?_ (by assumption) ?_; rotate_left; focus (intro w9 hSw; (try dsimp only at hSw); go_simp; (try with_reducible rfl); done)) | refine regU 1 rfl (by rfl) (by kernel_rfl) (fun _ _ _ h => h) (by assumption) ?_ | refine regN 1 rfl (by rfl) (by kernel_rfl) (by assumption) ?_
      try simp only [Act.put, List.setIfInBounds_toArray, List.set_cons_zero, List.set_cons_succ]
      first | (refine regW 5 (v := ?_) rfl (by rfl) (by kernel_rfl) (fun _ _ _ h => h) ?_ (by assumption) ?_; rotate_left; focus (intro w9 hSw; (try dsimp only at hSw); go_simp; (try with_reducible rfl); done)) | refine regU 5 rfl (by rfl) (by kernel_rfl) (fun _ _ _ h => h) (by assumption) ?_ | refine regN 5 rfl (by rfl) (by kernel_rfl) (by assumption) ?_
      try simp only [Act.put, List.setIfInBounds_toArray, List.set_cons_zero, List.set_cons_succ]
      first | (refine regW 6 (v := ?_) rfl (by rfl) (by kernel_rfl) (fun _ _ _ h => h) ?_ (by assumption) ?_; rotate_left; focus (intro w9 hSw; (try dsimp only at hSw); go_simp; (try with_reducible rfl); done)) | refine regU 6 rfl (by rfl) (by kernel_rfl) (fun _ _ _ h => h) (by assumption) ?_ | refine regN 6 rfl (by rfl) (by kernel_rfl) (by assumption) ?_
      try simp only [Act.put, List.setIfInBounds_toArray, List.set_cons_zero, List.set_cons_succ]
      first | (refine regW 9 (v := ?_) rfl (by rfl) (by kernel_rfl) (fun _ _ _ h => h) ?_ (by assumption) ?_; rotate_left; focus (intro w9 hSw; (try dsimp only at hSw); go_simp; (try with_reducible rfl); done)) | refine regU 9 rfl (by rfl) (by kernel_rfl) (fun _ _ _ h => h) (by assumption) ?_ | refine regN 9 rfl (by rfl) (by kernel_rfl) (by assumption) ?_
      try simp only [Act.put, List.setIfInBounds_toArray, List.set_cons_zero, List.set_cons_succ]
      refine regC 2 rfl (by kernel_rfl) (by rfl) (fun Kq hKq => ?_)
      go_simp
      (with_reducible refine (dig3 a ia.lo ia.hi _).mono ?_)
      rintro e w2 ⟨rfl, hb2⟩; have hT0 := (hS.drew).step hb2
      try go_wp2_with fail
      refine hKq.out _ _ (⟨hT0.cell 0 rfl 1, hT0.cell 0 rfl 3⟩) (fun hHeld => ?_)
      clear hKq Kq
      (try simp only [Act.put, List.setIfInBounds_toArray, List.set_cons_zero, List.set_cons_succ])
      first | (refine regW 3 (v := ?_) rfl (by rfl) (by kernel_rfl) (fun _ _ _ h => h) ?_ (by assumption) ?_; rotate_left; focus (intro w9 hSw; (try dsimp only at hSw); go_simp; (try with_reducible rfl); done)) | refine regU 3 rfl (by rfl) (by kernel_rfl) (fun _ _ _ h => h) (by assumption) ?_ | refine regN 3 rfl (by rfl) (by kernel_rfl) (by assumption) ?_
      try simp only [Act.put, List.setIfInBounds_toArray, List.set_cons_zero, List.set_cons_succ]
      first | (refine regW 4 (v := ?_) rfl (by rfl) (by kernel_rfl) (fun _ _ _ h => h) ?_ (by assumption) ?_; rotate_left; focus (intro w9 hSw; (try dsimp only at hSw); go_simp; (try with_reducible rfl); done)) | refine regU 4 rfl (by rfl) (by kernel_rfl) (fun _ _ _ h => h) (by assumption) ?_ | refine regN 4 rfl (by rfl) (by kernel_rfl) (by assumption) ?_
      try simp only [Act.put, List.setIfInBounds_toArray, List.set_cons_zero, List.set_cons_succ]
      refine regC 7 rfl (by kernel_rfl) (by rfl) (fun Kq hKq => ?_)
      go_simp
      (with_reducible refine (dig3 y iy.lo iy.hi _).mono ?_)
      rintro e w3 ⟨rfl, hb3⟩; have hT1 := (hT0).step hb3
      try go_wp2_with fail
      refine hKq.out _ _ (⟨hT1.cell 0 rfl 1, hT1.cell 0 rfl 3⟩) (fun hHeld => ?_)
      clear hKq Kq
      (try simp only [Act.put, List.setIfInBounds_toArray, List.set_cons_zero, List.set_cons_succ])
      first | (refine regW 8 (v := ?_) rfl (by rfl) (by kernel_rfl) (fun _ _ _ h => h) ?_ (by assumption) ?_; rotate_left; focus (intro w9 hSw; (try dsimp only at hSw); go_simp; (try with_reducible rfl); done)) | refine regU 8 rfl (by rfl) (by kernel_rfl) (fun _ _ _ h => h) (by assumption) ?_ | refine regN 8 rfl (by rfl) (by kernel_rfl) (by assumption) ?_
      try simp only [Act.put, List.setIfInBounds_toArray, List.set_cons_zero, List.set_cons_succ]
      first | (refine regW 10 (v := ?_) rfl (by rfl) (by kernel_rfl) (fun _ _ _ h => h) ?_ (by assumption) ?_; rotate_left; focus (intro w9 hSw; (try dsimp only at hSw); go_simp; (try with_reducible rfl); done)) | refine regU 10 rfl (by rfl) (by kernel_rfl) (fun _ _ _ h => h) (by assumption) ?_ | refine regN 10 rfl (by rfl) (by kernel_rfl) (by assumption) ?_
      try simp only [Act.put, List.setIfInBounds_toArray, List.set_cons_zero, List.set_cons_succ]
      first | (refine regW 11 (v := ?_) rfl (by rfl) (by kernel_rfl) (fun _ _ _ h => h) ?_ (by assumption) ?_; rotate_left; focus (intro w9 hSw; (try dsimp only at hSw); go_simp; (try with_reducible rfl); done)) | refine regU 11 rfl (by rfl) (by kernel_rfl) (fun _ _ _ h => h) (by assumption) ?_ | refine regN 11 rfl (by rfl) (by kernel_rfl) (by assumption) ?_
      try simp only [Act.put, List.setIfInBounds_toArray, List.set_cons_zero, List.set_cons_succ]
      refine wpAnyH_done (by kernel_rfl) ?_ _
      clear hHeld
      go_wp2
      go_ret
      exact ⟨by rw [E.out, ← HW.out]; simp only [← txt_app]; rfl, hT1.bel⟩
  by_cases k3 : k = 3
  · subst k3
    have E := Lib.hid (show lineL ⟨3, a, b, y, bare, sites⟩ = ((((([108, 111, 111, 112, 32] ++ Lib.itoa a) ++ [32]) ++ Lib.itoa b) ++ [32]) ++ Lib.itoa y) ++ how by unfold lineL itoas; dsimp only; rw [if_neg (by decide), if_neg (by decide), if_pos rfl]; simp only [List.map_cons, List.map_nil]; rw [join3, ← HW.out]; simp)
    clear hhow zh
    cases bare
    · go_enter Tryd.func46, Tryd.ntmps46
      go_wp2
      have hs1 : (9223372036854775807 < 5 + (txt (Lib.itoa a)).size) = False := eq_false (by rw [txt_size]; omega)
      have hs2 : (9223372036854775807 < 5 + (txt (Lib.itoa a)).size + 1) = False := eq_false (by rw [txt_size]; omega)
      have hs3 : (9223372036854775807 < 5 + (txt (Lib.itoa a)).size + 1 + (txt (Lib.itoa b)).size) = False := eq_false (by rw [txt_size, txt_size]; omega)
      have hs4 : (9223372036854775807 < 5 + (txt (Lib.itoa a)).size + 1 + (txt (Lib.itoa b)).size + 1) = False := eq_false (by rw [txt_size, txt_size]; omega)
      have hs5 : (9223372036854775807 < 5 + (txt (Lib.itoa a)).size + 1 + (txt (Lib.itoa b)).size + 1 + (txt (Lib.itoa y)).size) = False := eq_false (by rw [txt_size, txt_size, txt_size]; omega)
      have hs6 : (9223372036854775807 < 5 + (txt (Lib.itoa a)).size + 1 + (txt (Lib.itoa b)).size + 1 + (txt (Lib.itoa y)).size + 5) = False := eq_false (by rw [txt_size, txt_size, txt_size]; omega)
      refine wp_region_held_drew (S := (fun w' => w'.cell? ⟨w.heap.size, 1, none⟩ = some (.int .i64 a) ∧ w'.cell? ⟨w.heap.size, 2, none⟩ = some (.int .i64 b) ∧ w'.cell? ⟨w.heap.size, 3, none⟩ = some (.int .i64 y))) (by kernel_rfl) (⟨hS.drew.cell 0 rfl 1, hS.drew.cell 0 rfl 2, hS.drew.cell 0 rfl 3⟩) (fun hHeld => ?_)
      first | (refine regW 0 (v := ?_) rfl (by rfl) (by kernel_rfl) (fun _ _ _ h => h) ?_ (by assumption) ?_; rotate_left; focus (intro w9 hSw; (try dsimp only at hSw); go_simp; (try with_reducible rfl); done)) | refine regU 0 rfl (by rfl) (by kernel_rfl) (fun _ _ _ h => h) (by assumption) ?_ | refine regN 0 rfl (by rfl) (by kernel_rfl) (by assumption) ?_
      try simp only [Act.put, List.setIfInBounds_toArray, List.set_cons_zero, List.set_cons_succ]
      first | (refine regW 1 (v := ?_) rfl (by rfl) (by kernel_rfl) (fun _ _ _ h => h) ?_ (by assumption) ?_; rotate_left; focus (intro w9 hSw; (try dsimp only at hSw); go_simp; (try with_reducible rfl); done)) | refine regU 1 rfl (by rfl) (by kernel_rfl) (fun _ _ _ h => h) (by assumption) ?_ | refine regN 1 rfl (by rfl) (by kernel_rfl) (by assumption) ?_
      try simp only [Act.put, List.setIfInBounds_toArray, List.set_cons_zero, List.set_cons_succ]
      first | (refine regW 5 (v := ?_) rfl (by rfl) (by kernel_rfl) (fun _ _ _ h => h) ?_ (by assumption) ?_; rotate_left; focus (intro w9 hSw; (try dsimp only at hSw); go_simp; (try with_reducible rfl); done)) | refine regU 5 rfl (by rfl) (by kernel_rfl) (fun _ _ _ h => h) (by assumption) ?_ | refine regN 5 rfl (by rfl) (by kernel_rfl) (by assumption) ?_
      try simp only [Act.put, List.setIfInBounds_toArray, List.set_cons_zero, List.set_cons_succ]
      first | (refine regW 6 (v := ?_) rfl (by rfl) (by kernel_rfl) (fun _ _ _ h => h) ?_ (by assumption) ?_; rotate_left; focus (intro w9 hSw; (try dsimp only at hSw); go_simp; (try with_reducible rfl); done)) | refine regU 6 rfl (by rfl) (by kernel_rfl) (fun _ _ _ h => h) (by assumption) ?_ | refine regN 6 rfl (by rfl) (by kernel_rfl) (by assumption) ?_
      try simp only [Act.put, List.setIfInBounds_toArray, List.set_cons_zero, List.set_cons_succ]
      first | (refine regW 10 (v := ?_) rfl (by rfl) (by kernel_rfl) (fun _ _ _ h => h) ?_ (by assumption) ?_; rotate_left; focus (intro w9 hSw; (try dsimp only at hSw); go_simp; (try with_reducible rfl); done)) | refine regU 10 rfl (by rfl) (by kernel_rfl) (fun _ _ _ h => h) (by assumption) ?_ | refine regN 10 rfl (by rfl) (by kernel_rfl) (by assumption) ?_
      try simp only [Act.put, List.setIfInBounds_toArray, List.set_cons_zero, List.set_cons_succ]
      first | (refine regW 11 (v := ?_) rfl (by rfl) (by kernel_rfl) (fun _ _ _ h => h) ?_ (by assumption) ?_; rotate_left; focus (intro w9 hSw; (try dsimp only at hSw); go_simp; (try with_reducible rfl); done)) | refine regU 11 rfl (by rfl) (by kernel_rfl) (fun _ _ _ h => h) (by assumption) ?_ | refine regN 11 rfl (by rfl) (by kernel_rfl) (by assumption) ?_
      try simp only [Act.put, List.setIfInBounds_toArray, List.set_cons_zero, List.set_cons_succ]
      first | (refine regW 14 (v := ?_) rfl (by rfl) (by kernel_rfl) (fun _ _ _ h => h) ?_ (by assumption) ?_; rotate_left; focus (intro w9 hSw; (try dsimp only at hSw); go_simp; (try with_reducible rfl); done)) | refine regU 14 rfl (by rfl) (by kernel_rfl) (fun _ _ _ h => h) (by assumption) ?_ | refine regN 14 rfl (by rfl) (by kernel_rfl) (by assumption) ?_
      try simp only [Act.put, List.setIfInBounds_toArray, List.set_cons_zero, List.set_cons_succ]
      refine regC 2 rfl (by kernel_rfl) (by rfl) (fun Kq hKq => ?_)
      go_simp
      (with_reducible refine (dig3 a ia.lo ia.hi _).mono ?_)
      rintro e w2 ⟨rfl, hb2⟩; have hT0 := (hS.drew).step hb2
      try go_wp2_with fail
      refine hKq.out _ _ (⟨hT0.cell 0 rfl 1, hT0.cell 0 rfl 2, hT0.cell 0 rfl 3⟩) (fun hHeld => ?_)
      clear hKq Kq
      (try simp only [Act.put, List.setIfInBounds_toArray, List.set_cons_zero, List.set_cons_succ])
      first | (refine regW 3 (v := ?_) rfl (by rfl) (by kernel_rfl) (fun _ _ _ h => h) ?_ (by assumption) ?_; rotate_left; focus (intro w9 hSw; (try dsimp only at hSw); go_simp; (try with_reducible rfl); done)) | refine regU 3 rfl (by rfl) (by kernel_rfl) (fun _ _ _ h => h) (by assumption) ?_ | refine regN 3 rfl (by rfl) (by kernel_rfl) (by assumption) ?_
      try simp only [Act.put, List.setIfInBounds_toArray, List.set_cons_zero, List.set_cons_succ]
      first | (refine regW 4 (v := ?_) rfl (by rfl) (by kernel_rfl) (fun _ _ _ h => h) ?_ (by assumption) ?_; rotate_left; focus (intro w9 hSw; (try dsimp only at hSw); go_simp; (try with_reducible rfl); done)) | refine regU 4 rfl (by rfl) (by kernel_rfl) (fun _ _ _ h => h) (by assumption) ?_ | refine regN 4 rfl (by rfl) (by kernel_rfl) (by assumption) ?_
      try simp only [Act.put, List.setIfInBounds_toArray, List.set_cons_zero, List.set_cons_succ]
      refine regC 7 rfl (by kernel_rfl) (by rfl) (fun Kq hKq => ?_)
      go_simp
      (with_reducible refine (dig3 b ib.lo ib.hi _).mono ?_)
      rintro e w3 ⟨rfl, hb3⟩; have hT1 := (hT0).step hb3
      try go_wp2_with fail
      refine hKq.out _ _ (⟨hT1.cell 0 rfl 1, hT1.cell 0 rfl 2, hT1.cell 0 rfl 3⟩) (fun hHeld => ?_)
      clear hKq Kq
      (try simp only [Act.put, List.setIfInBounds_toArray, List.set_cons_zero, List.set_cons_succ])
      first | (refine regW 8 (v := ?_) rfl (by rfl) (by kernel_rfl) (fun _ _ _ h => h) ?_ (by assumption) ?_; rotate_left; focus (intro w9 hSw; (try dsimp only at hSw); go_simp; (try with_reducible rfl); done)) | refine regU 8 rfl (by rfl) (by kernel_rfl) (fun _ _ _ h => h) (by assumption) ?_ | refine regN 8 rfl (by rfl) (by kernel_rfl) (by assumption) ?_
      try simp only [Act.put, List.setIfInBounds_toArray, List.set_cons_zero, List.set_cons_succ]
      first | (refine regW 9 (v := ?_) rfl (by rfl) (by kernel_rfl) (fun _ _ _ h => h) ?_ (by assumption) ?_; rotate_left; focus (intro w9 hSw; (try dsimp only at hSw); go_simp; (try with_reducible rfl); done)) | refine regU 9 rfl (by rfl) (by kernel_rfl) (fun _ _ _ h => h) (by assumption) ?_ | refine regN 9 rfl (by rfl) (by kernel_rfl) (by assumption) ?_
      try simp only [Act.put, List.setIfInBounds_toArray, List.set_cons_zero, List.set_cons_succ]
      refine regC 12 rfl (by kernel_rfl) (by rfl) (fun Kq hKq => ?_)
      go_simp
      (with_reducible refine (dig3 y iy.lo iy.hi _).mono ?_)
      rintro e w4 ⟨rfl, hb4⟩; have hT2 := (hT1).step hb4
      try go_wp2_with fail
      refine hKq.out _ _ (⟨hT2.cell 0 rfl 1, hT2.cell 0 rfl 2, hT2.cell 0 rfl 3⟩) (fun hHeld => ?_)
      clear hKq Kq
      (try simp only [Act.put, List.setIfInBounds_toArray, List.set_cons_zero, List.set_cons_succ])
      first | (refine regW 13 (v := ?_) rfl (by rfl) (by kernel_rfl) (fun _ _ _ h => h) ?_ (by assumption) ?_; rotate_left; focus (intro w9 hSw; (try dsimp only at hSw); go_simp; (try with_reducible rfl); done)) | refine regU 13 rfl (by rfl) (by kernel_rfl) (fun _ _ _ h => h) (by assumption) ?_ | refine regN 13 rfl (by rfl) (by kernel_rfl) (by assumption) ?_
      try simp only [Act.put, List.setIfInBounds_toArray, List.set_cons_zero, List.set_cons_succ]
      first | (refine regW 15 (v := ?_) rfl (by rfl) (by kernel_rfl) (fun _ _ _ h => h) ?_ (by assumption) ?_; rotate_left; focus (intro w9 hSw; (try dsimp only at hSw); go_simp; (try with_reducible rfl); done)) | refine regU 15 rfl (by rfl) (by kernel_rfl) (fun _ _ _ h => h) (by assumption) ?_ | refine regN 15 rfl (by rfl) (by kernel_rfl) (by assumption) ?_
      try simp only [Act.put, List.setIfInBounds_toArray, List.set_cons_zero, List.set_cons_succ]
      first | (refine regW 16 (v := ?_) rfl (by rfl) (by kernel_rfl) (fun _ _ _ h => h) ?_ (by assumption) ?_; rotate_left; focus (intro w9 hSw; (try dsimp only at hSw); go_simp; (try with_reducible rfl); done)) | refine regU 16 rfl (by rfl) (by kernel_rfl) (fun _ _ _ h => h) (by assumption) ?_ | refine regN 16 rfl (by rfl) (by kernel_rfl) (by assumption) ?_
      try simp only [Act.put, List.setIfInBounds_toArray, List.set_cons_zero, List.set_cons_succ]
      refine wpAnyH_done (by kernel_rfl) ?_ _
      clear hHeld
      go_wp2
      go_ret
      exact ⟨by rw [E.out, ← HW.out]; simp only [← txt_app]; rfl, hT2.bel⟩
    · go_enter Tryd.func46, Tryd.ntmps46
      go_wp2
      have hs1 : (9223372036854775807 < 5 + (txt (Lib.itoa a)).size) = False := eq_false (by rw [txt_size]; omega)
      have hs2 : (9223372036854775807 < 5 + (txt (Lib.itoa a)).size + 1) = False := eq_false (by rw [txt_size]; omega)
      have hs3 : (9223372036854775807 < 5 + (txt (Lib.itoa a)).size + 1 + (txt (Lib.itoa b)).size) = False := eq_false (by rw [txt_size, txt_size]; omega)
      have hs4 : (9223372036854775807 < 5 + (txt (Lib.itoa a)).size + 1 + (txt (Lib.itoa b)).size + 1) = False := eq_false (by rw [txt_size, txt_size]; omega)
      have hs5 : (9223372036854775807 < 5 + (txt (Lib.itoa a)).size + 1 + (txt (Lib.itoa b)).size + 1 + (txt (Lib.itoa y)).size) = False := eq_false (by rw [txt_size, txt_size, txt_size]; omega)
      have hs6 : (9223372036854775807 < 5 + (txt (Lib.itoa a)).size + 1 + (txt (Lib.itoa b)).size + 1 + (txt (Lib.itoa y)).size + 5) = False := eq_false (by rw [txt_size, txt_size, txt_size]; omega)
      refine wp_region_held_drew (S := (fun w' => w'.cell? ⟨w.heap.size, 1, none⟩ = some (.int .i64 a) ∧ w'.cell? ⟨w.heap.size, 2, none⟩ = some (.int .i64 b) ∧ w'.cell? ⟨w.heap.size, 3, none⟩ = some (.int .i64 y))) (by kernel_rfl) (⟨hS.drew.cell 0 rfl 1, hS.drew.cell 0 rfl 2, hS.drew.cell 0 rfl 3⟩) (fun hHeld => ?_)
      first | (refine regW 0 (v := ?_) rfl (by rfl) (by kernel_rfl) (fun _ _ _ h => h) ?_ (by assumption) ?_; rotate_left; focus (intro w9 hSw; (try dsimp only at hSw); go_simp; (try with_reducible rfl); done)) | refine regU 0 rfl (by rfl) (by kernel_rfl) (fun _ _ _ h => h) (by assumption) ?_ | refine regN 0 rfl (by rfl) (by kernel_rfl) (by assumption) ?_
      try simp only [Act.put, List.setIfInBounds_toArray, List.set_cons_zero, List.set_cons_succ]
      first | (refine regW 1 (v := ?_) rfl (by rfl) (by kernel_rfl) (fun _ _ _ h => h) ?_ (by assumption) ?_; rotate_left; focus (intro w9 hSw; (try dsimp only at hSw); go_simp; (try with_reducible rfl); done)) | refine regU 1 rfl (by rfl) (by kernel_rfl) (fun _ _ _ h => h) (by assumption) ?_ | refine regN 1 rfl (by rfl) (by kernel_rfl) (by assumption) ?_
      try simp only [Act.put, List.setIfInBounds_toArray, List.set_cons_zero, List.set_cons_succ]
      first | (refine regW 5 (v := ?_) rfl (by rfl) (by kernel_rfl) (fun _ _ _ h => h) ?_ (by assumption) ?_; rotate_left; focus (intro w9 hSw; (try dsimp only at hSw); go_simp; (try with_reducible rfl); done)) | refine regU 5 rfl (by rfl) (by kernel_rfl) (fun _ _ _ h => h) (by assumption) ?_ | refine regN 5 rfl (by rfl) (by kernel_rfl) (by assumption) ?_
      try simp only [Act.put, List.setIfInBounds_toArray, List.set_cons_zero, List.set_cons_succ]
      first | (refine regW 6 (v := ?_) rfl (by rfl) (by kernel_rfl) (fun _ _ _ h => h) ?_ (by assumption) ?_; rotate_left; focus (intro w9 hSw; (try dsimp only at hSw); go_simp; (try with_reducible rfl); done)) | refine regU 6 rfl (by rfl) (by kernel_rfl) (fun _ _ _ h => h) (by assumption) ?_ | refine regN 6 rfl (by rfl) (by kernel_rfl) (by assumption) ?_
      try simp only [Act.put, List.setIfInBounds_toArray, List.set_cons_zero, List.set_cons_succ]
      first | (refine regW 10 (v := ?_) rfl (by rfl) (by kernel_rfl) (fun _ _ _ h => h) ?_ (by assumption) ?_; rotate_left; focus (intro w9 hSw; (try dsimp only at hSw); go_simp; (try with_reducible rfl); done)) | refine regU 10 rfl (by rfl) (by kernel_rfl) (fun _ _ _ h => h) (by assumption) ?_ | refine regN 10 rfl (by rfl) (by kernel_rfl) (by assumption) ?_
      try simp only [Act.put, List.setIfInBounds_toArray, List.set_cons_zero, List.set_cons_succ]
      first | (refine regW 11 (v := ?_) rfl (by rfl) (by kernel_rfl) (fun _ _ _ h => h) ?_ (by assumption) ?_; rotate_left; focus (intro w9 hSw; (try dsimp only at hSw); go_simp; (try with_reducible rfl); done)) | refine regU 11 rfl (by rfl) (by kernel_rfl) (fun _ _ _ h => h) (by assumption) ?_ | refine regN 11 rfl (by rfl) (by kernel_rfl) (by assumption) ?_
      try simp only [Act.put, List.setIfInBounds_toArray, List.set_cons_zero, List.set_cons_succ]
      first | (refine regW 14 (v := ?_) rfl (by rfl) (by kernel_rfl) (fun _ _ _ h => h) ?_ (by assumption) ?_; rotate_left; focus (intro w9 hSw; (try dsimp only at hSw); go_simp; (try with_reducible rfl); done)) | refine regU 14 rfl (by rfl) (by kernel_rfl) (fun _ _ _ h => h) (by assumption) ?_ | refine regN 14 rfl (by rfl) (by kernel_rfl) (by assumption) ?_
      try simp only [Act.put, List.setIfInBounds_toArray, List.set_cons_zero, List.set_cons_succ]
      refine regC 2 rfl (by kernel_rfl) (by rfl) (fun Kq hKq => ?_)
      go_simp
      (with_reducible refine (dig3 a ia.lo ia.hi _).mono ?_)
      rintro e w2 ⟨rfl, hb2⟩; have hT0 := (hS.drew).step hb2
      try go_wp2_with fail
      refine hKq.out _ _ (⟨hT0.cell 0 rfl 1, hT0.cell 0 rfl 2, hT0.cell 0 rfl 3⟩) (fun hHeld => ?_)
      clear hKq Kq
      (try simp only [Act.put, List.setIfInBounds_toArray, List.set_cons_zero, List.set_cons_succ])
      first | (refine regW 3 (v := ?_) rfl (by rfl) (by kernel_rfl) (fun _ _ _ h => h) ?_ (by assumption) ?_; rotate_left; focus (intro w9 hSw; (try dsimp only at hSw); go_simp; (try with_reducible rfl); done)) | refine regU 3 rfl (by rfl) (by kernel_rfl) (fun _ _ _ h => h) (by assumption) ?_ | refine regN 3 rfl (by rfl) (by kernel_rfl) (by assumption) ?_
      try simp only [Act.put, List.setIfInBounds_toArray, List.set_cons_zero, List.set_cons_succ]
      first | (refine regW 4 (v := ?_) rfl (by rfl) (by kernel_rfl) (fun _ _ _ h => h) ?_ (by assumption) ?_; rotate_left; focus (intro w9 hSw; (try dsimp only at hSw); go_simp; (try with_reducible rfl); done)) | refine regU 4 rfl (by rfl) (by kernel_rfl) (fun _ _ _ h => h) (by assumption) ?_ | refine regN 4 rfl (by rfl) (by kernel_rfl) (by assumption) ?_
      try simp only [Act.put, List.setIfInBounds_toArray, List.set_cons_zero, List.set_cons_succ]
      refine regC 7 rfl (by kernel_rfl) (by rfl) (fun Kq hKq => ?_)
      go_simp
      (with_reducible refine (dig3 b ib.lo ib.hi _).mono ?_)
      rintro e w3 ⟨rfl, hb3⟩; have hT1 := (hT0).step hb3
      try go_wp2_with fail
      refine hKq.out _ _ (⟨hT1.cell 0 rfl 1, hT1.cell 0 rfl 2, hT1.cell 0 rfl 3⟩) (fun hHeld => ?_)
      clear hKq Kq
      (try simp only [Act.put, List.setIfInBounds_toArray, List.set_cons_zero, List.set_cons_succ])
      first | (refine regW 8 (v := ?_) rfl (by rfl) (by kernel_rfl) (fun _ _ _ h => h) ?_ (by assumption) ?_; rotate_left; focus (intro w9 hSw; (try dsimp only at hSw); go_simp; (try with_reducible rfl); done)) | refine regU 8 rfl (by rfl) (by kernel_rfl) (fun _ _ _ h => h) (by assumption) ?_ | refine regN 8 rfl (by rfl) (by kernel_rfl) (by assumption) ?_
      try simp only [Act.put, List.setIfInBounds_toArray, List.set_cons_zero, List.set_cons_succ]
      first | (refine regW 9 (v := ?_) rfl (by rfl) (by kernel_rfl) (fun _ _ _ h => h) ?_ (by assumption) ?_; rotate_left; focus (intro w9 hSw; (try dsimp only at hSw); go_simp; (try with_reducible rfl); done)) | refine regU 9 rfl (by rfl) (by kernel_rfl) (fun _ _ _ h => h) (by assumption) ?_ | refine regN 9 rfl (by rfl) (by kernel_rfl) (by assumption) ?_
      try simp only [Act.put, List.setIfInBounds_toArray, List.set_cons_zero, List.set_cons_succ]
      refine regC 12 rfl (by kernel_rfl) (by rfl) (fun Kq hKq => ?_)
      go_simp
      (with_reducible refine (dig3 y iy.lo iy.hi _).mono ?_)
      rintro e w4 ⟨rfl, hb4⟩; have hT2 := (hT1).step hb4
      try go_wp2_with fail
      refine hKq.out _ _ (⟨hT2.cell 0 rfl 1, hT2.cell 0 rfl 2, hT2.cell 0 rfl 3⟩) (fun hHeld => ?_)
      clear hKq Kq
      (try simp only [Act.put, List.setIfInBounds_toArray, List.set_cons_zero, List.set_cons_succ])
      first | (refine regW 13 (v := ?_) rfl (by rfl) (by kernel_rfl) (fun _ _ _ h => h) ?_ (by assumption) ?_; rotate_left; focus (intro w9 hSw; (try dsimp only at hSw); go_simp; (try with_reducible rfl); done)) | refine regU 13 rfl (by rfl) (by kernel_rfl) (fun _ _ _ h => h) (by assumption) ?_ | refine regN 13 rfl (by rfl) (by kernel_rfl) (by assumption) ?_
      try simp only [Act.put, List.setIfInBounds_toArray, List.set_cons_zero, List.set_cons_succ]
      first | (refine regW 15 (v := ?_) rfl (by rfl) (by kernel_rfl) (fun _ _ _ h => h) ?_ (by assumption) ?_; rotate_left; focus (intro w9 hSw; (try dsimp only at hSw); go_simp; (try with_reducible rfl); done)) | refine regU 15 rfl (by rfl) (by kernel_rfl) (fun _ _ _ h => h) (by assumption) ?_ | refine regN 15 rfl (by rfl) (by kernel_rfl) (by assumption) ?_
      try simp only [Act.put, List.setIfInBounds_toArray, List.set_cons_zero, List.set_cons_succ]
      first | (refine regW 16 (v := ?_) rfl (by rfl) (by kernel_rfl) (fun _ _ _ h => h) ?_ (by assumption) ?_; rotate_left; focus (intro w9 hSw; (try dsimp only at hSw); go_simp; (try with_reducible rfl); done)) | refine regU 16 rfl (by rfl) (by kernel_rfl) (fun _ _ _ h => h) (by assumption) ?_ | refine regN 16 rfl (by rfl) (by kernel_rfl) (by assumption) ?_
      try simp only [Act.put, List.setIfInBounds_toArray, List.set_cons_zero, List.set_cons_succ]
      refine wpAnyH_done (by kernel_rfl) ?_ _
      clear hHeld
      go_wp2
      go_ret
      exact ⟨by rw [E.out, ← HW.out]; simp only [← txt_app]; rfl, hT2.bel⟩
  have E := Lib.hid (show lineL ⟨k, a, b, y, bare, sites⟩ = forgeL ++ sites.flatMap siteL by unfold lineL; dsimp only; rw [if_neg k1, if_neg k2, if_neg k3, if_neg k4])
  have m1 : (k == 1) = false := by simpa using k1
  have m2 : (k == 2) = false := by simpa using k2
  have m3 : (k == 3) = false := by simpa using k3
  have m4 : (k == 4) = false := by simpa using k4
  clear k1 k2 k3 k4 hhow zh HW how za zb zy
  cases bare
  · go_enter Tryd.func46, Tryd.ntmps46
    go_wp2
    go_loopw [4, 5] (fun v i wr => ∃ j : Nat, j ≤ sites.length ∧ i = .int .i64 j ∧ v = .string (txt (forgeL ++ (sites.take j).flatMap siteL)) ∧ St w [Res.box w.heap.size (.cells #[.int .i64 k, .int .i64 a, .int .i64 b, .int .i64 y, .bool false, .slice A sites.length c] 90 (0, 0))] wr) (fun _ i _ => sites.length - (intOf i).toNat)
    case atStart => exact ⟨0, by omega, rfl, rfl, hS⟩
    case round =>
      clear hS
      obtain ⟨j, hj, rfl, rfl, hS⟩ := hrel
      have x5 := hS.cell 0 rfl 5
      by_cases hlt : j < sites.length
      · obtain ⟨s, hs⟩ := get_exU sites j hlt
        obtain ⟨ad, rfl, q0, q1, q2, q3⟩ := kSite_at (hr.below hS.bel) j s hs
        have his := is s (List.mem_of_getElem? hs)
        have HN := Lib.hid (show (sites.take (j + 1)).flatMap siteL = (sites.take j).flatMap siteL ++ siteL s from flatC_step hs)
        have HJ := Lib.hid (show siteL s = [32] ++ ((((((Lib.itoa s.fn ++ [32]) ++ Lib.itoa s.pc) ++ [32]) ++ Lib.itoa s.seen) ++ [32]) ++ Lib.itoa s.target) by unfold siteL siteJ itoas; simp only [List.map_cons, List.map_nil]; rw [join4])
        have hl0 : (forgeL ++ (sites.take j).flatMap siteL).length ≤ 89005 := by
          have := flatC_len (f := siteL) (c := 89) (l := sites.take j) (fun s hs => siteL_len (is s (List.mem_of_mem_take hs)))
          have h5 : forgeL.length = 5 := rfl
          have h6 : (sites.take j).length ≤ 1000 := by rw [List.length_take]; omega
          rw [List.length_append]
          omega
        have z0 := Lib.itoa_length_le s.fn his.1.lo his.1.hi
        have z1 := Lib.itoa_length_le s.pc his.2.1.lo his.2.1.hi
        have z2 := Lib.itoa_length_le s.seen his.2.2.1.lo his.2.2.1.hi
        have z3 := Lib.itoa_length_le s.target his.2.2.2.lo his.2.2.2.hi
        have hT := (hS.made (.cells #[.int .i64 s.fn, .int .i64 s.pc, .int .i64 s.seen, .int .i64 s.target] 119 (0, 0))).drew
        clear hs
        go_wp2
        have hs0 : (9223372036854775807 < (txt (forgeL ++ (sites.take j).flatMap siteL)).size + 1) = False := eq_false (by simp only [txt_size]; omega)
        have hs1 : (9223372036854775807 < (txt (forgeL ++ (sites.take j).flatMap siteL)).size + 1 + (txt (Lib.itoa s.fn)).size) = False := eq_false (by simp only [txt_size]; omega)
        have hs2 : (9223372036854775807 < (txt (forgeL ++ (sites.take j).flatMap siteL)).size + 1 + (txt (Lib.itoa s.fn)).size + 1) = False := eq_false (by simp only [txt_size]; omega)
        have hs3 : (9223372036854775807 < (txt (forgeL ++ (sites.take j).flatMap siteL)).size + 1 + (txt (Lib.itoa s.fn)).size + 1 + (txt (Lib.itoa s.pc)).size) = False := eq_false (by simp only [txt_size]; omega)
        have hs4 : (9223372036854775807 < (txt (forgeL ++ (sites.take j).flatMap siteL)).size + 1 + (txt (Lib.itoa s.fn)).size + 1 + (txt (Lib.itoa s.pc)).size + 1) = False := eq_false (by simp only [txt_size]; omega)
        have hs5 : (9223372036854775807 < (txt (forgeL ++ (sites.take j).flatMap siteL)).size + 1 + (txt (Lib.itoa s.fn)).size + 1 + (txt (Lib.itoa s.pc)).size + 1 + (txt (Lib.itoa s.seen)).size) = False := eq_false (by simp only [txt_size]; omega)
        have hs6 : (9223372036854775807 < (txt (forgeL ++ (sites.take j).flatMap siteL)).size + 1 + (txt (Lib.itoa s.fn)).size + 1 + (txt (Lib.itoa s.pc)).size + 1 + (txt (Lib.itoa s.seen)).size + 1) = False := eq_false (by simp only [txt_size]; omega)
        have hs7 : (9223372036854775807 < (txt (forgeL ++ (sites.take j).flatMap siteL)).size + 1 + (txt (Lib.itoa s.fn)).size + 1 + (txt (Lib.itoa s.pc)).size + 1 + (txt (Lib.itoa s.seen)).size + 1 + (txt (Lib.itoa s.target)).size) = False := eq_false (by simp only [txt_size]; omega)
        clear z0 z1 z2 z3 hl0
        refine wp_region_held_drew (S := (fun w' => w'.cell? ⟨wr.heap.size, 0, none⟩ = some (.int .i64 s.fn) ∧ w'.cell? ⟨wr.heap.size, 1, none⟩ = some (.int .i64 s.pc) ∧ w'.cell? ⟨wr.heap.size, 2, none⟩ = some (.int .i64 s.seen) ∧ w'.cell? ⟨wr.heap.size, 3, none⟩ = some (.int .i64 s.target))) (by kernel_rfl) (⟨hT.cell 0 rfl 0, hT.cell 0 rfl 1, hT.cell 0 rfl 2, hT.cell 0 rfl 3⟩) (fun hHeld => ?_)
        first | (refine regW 0 (v := ?_) rfl (by rfl) (by kernel_rfl) (fun _ _ _ h => h) ?_ (by assumption) ?_; rotate_left; focus (intro w9 hSw; (try dsimp only at hSw); go_simp; (try with_reducible rfl); done)) | refine regU 0 rfl (by rfl) (by kernel_rfl) (fun _ _ _ h => h) (by assumption) ?_ | refine regN 0 rfl (by rfl) (by kernel_rfl) (by assumption) ?_
        try simp only [Act.put, List.setIfInBounds_toArray, List.set_cons_zero, List.set_cons_succ]
        first | (refine regW 2 (v := ?_) rfl (by rfl) (by kernel_rfl) (fun _ _ _ h => h) ?_ (by assumption) ?_; rotate_left; focus (intro w9 hSw; (try dsimp only at hSw); go_simp; (try with_reducible rfl); done)) | refine regU 2 rfl (by rfl) (by kernel_rfl) (fun _ _ _ h => h) (by assumption) ?_ | refine regN 2 rfl (by rfl) (by kernel_rfl) (by assumption) ?_
        try simp only [Act.put, List.setIfInBounds_toArray, List.set_cons_zero, List.set_cons_succ]
        first | (refine regW 3 (v := ?_) rfl (by rfl) (by kernel_rfl) (fun _ _ _ h => h) ?_ (by assumption) ?_; rotate_left; focus (intro w9 hSw; (try dsimp only at hSw); go_simp; (try with_reducible rfl); done)) | refine regU 3 rfl (by rfl) (by kernel_rfl) (fun _ _ _ h => h) (by assumption) ?_ | refine regN 3 rfl (by rfl) (by kernel_rfl) (by assumption) ?_
        try simp only [Act.put, List.setIfInBounds_toArray, List.set_cons_zero, List.set_cons_succ]
        first | (refine regW 7 (v := ?_) rfl (by rfl) (by kernel_rfl) (fun _ _ _ h => h) ?_ (by assumption) ?_; rotate_left; focus (intro w9 hSw; (try dsimp only at hSw); go_simp; (try with_reducible rfl); done)) | refine regU 7 rfl (by rfl) (by kernel_rfl) (fun _ _ _ h => h) (by assumption) ?_ | refine regN 7 rfl (by rfl) (by kernel_rfl) (by assumption) ?_
        try simp only [Act.put, List.setIfInBounds_toArray, List.set_cons_zero, List.set_cons_succ]
        first | (refine regW 8 (v := ?_) rfl (by rfl) (by kernel_rfl) (fun _ _ _ h => h) ?_ (by assumption) ?_; rotate_left; focus (intro w9 hSw; (try dsimp only at hSw); go_simp; (try with_reducible rfl); done)) | refine regU 8 rfl (by rfl) (by kernel_rfl) (fun _ _ _ h => h) (by assumption) ?_ | refine regN 8 rfl (by rfl) (by kernel_rfl) (by assumption) ?_
        try simp only [Act.put, List.setIfInBounds_toArray, List.set_cons_zero, List.set_cons_succ]
        first | (refine regW 12 (v := ?_) rfl (by rfl) (by kernel_rfl) (fun _ _ _ h => h) ?_ (by assumption) ?_; rotate_left; focus (intro w9 hSw; (try dsimp only at hSw); go_simp; (try with_reducible rfl); done)) | refine regU 12 rfl (by rfl) (by kernel_rfl) (fun _ _ _ h => h) (by assumption) ?_ | refine regN 12 rfl (by rfl) (by kernel_rfl) (by assumption) ?_
        try simp only [Act.put, List.setIfInBounds_toArray, List.set_cons_zero, List.set_cons_succ]
        first | (refine regW 13 (v := ?_) rfl (by rfl) (by kernel_rfl) (fun _ _ _ h => h) ?_ (by assumption) ?_; rotate_left; focus (intro w9 hSw; (try dsimp only at hSw); go_simp; (try with_reducible rfl); done)) | refine regU 13 rfl (by rfl) (by kernel_rfl) (fun _ _ _ h => h) (by assumption) ?_ | refine regN 13 rfl (by rfl) (by kernel_rfl) (by assumption) ?_
        try simp only [Act.put, List.setIfInBounds_toArray, List.set_cons_zero, List.set_cons_succ]
        first | (refine regW 17 (v := ?_) rfl (by rfl) (by kernel_rfl) (fun _ _ _ h => h) ?_ (by assumption) ?_; rotate_left; focus (intro w9 hSw; (try dsimp only at hSw); go_simp; (try with_reducible rfl); done)) | refine regU 17 rfl (by rfl) (by kernel_rfl) (fun _ _ _ h => h) (by assumption) ?_ | refine regN 17 rfl (by rfl) (by kernel_rfl) (by assumption) ?_
        try simp only [Act.put, List.setIfInBounds_toArray, List.set_cons_zero, List.set_cons_succ]
        first | (refine regW 18 (v := ?_) rfl (by rfl) (by kernel_rfl) (fun _ _ _ h => h) ?_ (by assumption) ?_; rotate_left; focus (intro w9 hSw; (try dsimp only at hSw); go_simp; (try with_reducible rfl); done)) | refine regU 18 rfl (by rfl) (by kernel_rfl) (fun _ _ _ h => h) (by assumption) ?_ | refine regN 18 rfl (by rfl) (by kernel_rfl) (by assumption) ?_
        try simp only [Act.put, List.setIfInBounds_toArray, List.set_cons_zero, List.set_cons_succ]
        first | (refine regW 1 (v := ?_) rfl (by rfl) (by kernel_rfl) (fun _ _ _ h => h) ?_ (by assumption) ?_; rotate_left; focus (intro w9 hSw; (try dsimp only at hSw); go_simp; (try with_reducible rfl); done)) | refine regU 1 rfl (by rfl) (by kernel_rfl) (fun _ _ _ h => h) (by assumption) ?_ | refine regN 1 rfl (by rfl) (by kernel_rfl) (by assumption) ?_
        try simp only [Act.put, List.setIfInBounds_toArray, List.set_cons_zero, List.set_cons_succ]
        refine regC 4 rfl (by kernel_rfl) (by rfl) (fun Kq hKq => ?_)
        go_simp
        (with_reducible refine (dig3 s.fn his.1.lo his.1.hi _).mono ?_)
        rintro e w2 ⟨rfl, hb2⟩; have hT0 := hT.step hb2
        try go_wp2_with fail
        refine hKq.out _ _ (⟨hT0.cell 0 rfl 0, hT0.cell 0 rfl 1, hT0.cell 0 rfl 2, hT0.cell 0 rfl 3⟩) (fun hHeld => ?_)
        clear hKq Kq
        (try simp only [Act.put, List.setIfInBounds_toArray, List.set_cons_zero, List.set_cons_succ])
        first | (refine regW 5 (v := ?_) rfl (by rfl) (by kernel_rfl) (fun _ _ _ h => h) ?_ (by assumption) ?_; rotate_left; focus (intro w9 hSw; (try dsimp only at hSw); go_simp; (try with_reducible rfl); done)) | refine regU 5 rfl (by rfl) (by kernel_rfl) (fun _ _ _ h => h) (by assumption) ?_ | refine regN 5 rfl (by rfl) (by kernel_rfl) (by assumption) ?_
        try simp only [Act.put, List.setIfInBounds_toArray, List.set_cons_zero, List.set_cons_succ]
        first | (refine regW 6 (v := ?_) rfl (by rfl) (by kernel_rfl) (fun _ _ _ h => h) ?_ (by assumption) ?_; rotate_left; focus (intro w9 hSw; (try dsimp only at hSw); go_simp; (try with_reducible rfl); done)) | refine regU 6 rfl (by rfl) (by kernel_rfl) (fun _ _ _ h => h) (by assumption) ?_ | refine regN 6 rfl (by rfl) (by kernel_rfl) (by assumption) ?_
        try simp only [Act.put, List.setIfInBounds_toArray, List.set_cons_zero, List.set_cons_succ]
        refine regC 9 rfl (by kernel_rfl) (by rfl) (fun Kq hKq => ?_)
        go_simp
        (with_reducible refine (dig3 s.pc his.2.1.lo his.2.1.hi _).mono ?_)
        rintro e w3 ⟨rfl, hb3⟩; have hT1 := hT0.step hb3
        try go_wp2_with fail
        refine hKq.out _ _ (⟨hT1.cell 0 rfl 0, hT1.cell 0 rfl 1, hT1.cell 0 rfl 2, hT1.cell 0 rfl 3⟩) (fun hHeld => ?_)
        clear hKq Kq
        (try simp only [Act.put, List.setIfInBounds_toArray, List.set_cons_zero, List.set_cons_succ])
        first | (refine regW 10 (v := ?_) rfl (by rfl) (by kernel_rfl) (fun _ _ _ h => h) ?_ (by assumption) ?_; rotate_left; focus (intro w9 hSw; (try dsimp only at hSw); go_simp; (try with_reducible rfl); done)) | refine regU 10 rfl (by rfl) (by kernel_rfl) (fun _ _ _ h => h) (by assumption) ?_ | refine regN 10 rfl (by rfl) (by kernel_rfl) (by assumption) ?_
        try simp only [Act.put, List.setIfInBounds_toArray, List.set_cons_zero, List.set_cons_succ]
        first | (refine regW 11 (v := ?_) rfl (by rfl) (by kernel_rfl) (fun _ _ _ h => h) ?_ (by assumption) ?_; rotate_left; focus (intro w9 hSw; (try dsimp only at hSw); go_simp; (try with_reducible rfl); done)) | refine regU 11 rfl (by rfl) (by kernel_rfl) (fun _ _ _ h => h) (by assumption) ?_ | refine regN 11 rfl (by rfl) (by kernel_rfl) (by assumption) ?_
        try simp only [Act.put, List.setIfInBounds_toArray, List.set_cons_zero, List.set_cons_succ]
        refine regC 14 rfl (by kernel_rfl) (by rfl) (fun Kq hKq => ?_)
        go_simp
        (with_reducible refine (dig3 s.seen his.2.2.1.lo his.2.2.1.hi _).mono ?_)
        rintro e w4 ⟨rfl, hb4⟩; have hT2 := hT1.step hb4
        try go_wp2_with fail
        refine hKq.out _ _ (⟨hT2.cell 0 rfl 0, hT2.cell 0 rfl 1, hT2.cell 0 rfl 2, hT2.cell 0 rfl 3⟩) (fun hHeld => ?_)
        clear hKq Kq
        (try simp only [Act.put, List.setIfInBounds_toArray, List.set_cons_zero, List.set_cons_succ])
        first | (refine regW 15 (v := ?_) rfl (by rfl) (by kernel_rfl) (fun _ _ _ h => h) ?_ (by assumption) ?_; rotate_left; focus (intro w9 hSw; (try dsimp only at hSw); go_simp; (try with_reducible rfl); done)) | refine regU 15 rfl (by rfl) (by kernel_rfl) (fun _ _ _ h => h) (by assumption) ?_ | refine regN 15 rfl (by rfl) (by kernel_rfl) (by assumption) ?_
        try simp only [Act.put, List.setIfInBounds_toArray, List.set_cons_zero, List.set_cons_succ]
        first | (refine regW 16 (v := ?_) rfl (by rfl) (by kernel_rfl) (fun _ _ _ h => h) ?_ (by assumption) ?_; rotate_left; focus (intro w9 hSw; (try dsimp only at hSw); go_simp; (try with_reducible rfl); done)) | refine regU 16 rfl (by rfl) (by kernel_rfl) (fun _ _ _ h => h) (by assumption) ?_ | refine regN 16 rfl (by rfl) (by kernel_rfl) (by assumption) ?_
        try simp only [Act.put, List.setIfInBounds_toArray, List.set_cons_zero, List.set_cons_succ]
        refine regC 19 rfl (by kernel_rfl) (by rfl) (fun Kq hKq => ?_)
        go_simp
        (with_reducible refine (dig3 s.target his.2.2.2.lo his.2.2.2.hi _).mono ?_)
        rintro e w5 ⟨rfl, hb5⟩; have hT3 := hT2.step hb5
        try go_wp2_with fail
        refine hKq.out _ _ (⟨hT3.cell 0 rfl 0, hT3.cell 0 rfl 1, hT3.cell 0 rfl 2, hT3.cell 0 rfl 3⟩) (fun hHeld => ?_)
        clear hKq Kq
        (try simp only [Act.put, List.setIfInBounds_toArray, List.set_cons_zero, List.set_cons_succ])
        first | (refine regW 20 (v := ?_) rfl (by rfl) (by kernel_rfl) (fun _ _ _ h => h) ?_ (by assumption) ?_; rotate_left; focus (intro w9 hSw; (try dsimp only at hSw); go_simp; (try with_reducible rfl); done)) | refine regU 20 rfl (by rfl) (by kernel_rfl) (fun _ _ _ h => h) (by assumption) ?_ | refine regN 20 rfl (by rfl) (by kernel_rfl) (by assumption) ?_
        try simp only [Act.put, List.setIfInBounds_toArray, List.set_cons_zero, List.set_cons_succ]
        first | (refine regW 21 (v := ?_) rfl (by rfl) (by kernel_rfl) (fun _ _ _ h => h) ?_ (by assumption) ?_; rotate_left; focus (intro w9 hSw; (try dsimp only at hSw); go_simp; (try with_reducible rfl); done)) | refine regU 21 rfl (by rfl) (by kernel_rfl) (fun _ _ _ h => h) (by assumption) ?_ | refine regN 21 rfl (by rfl) (by kernel_rfl) (by assumption) ?_
        try simp only [Act.put, List.setIfInBounds_toArray, List.set_cons_zero, List.set_cons_succ]
        refine wpAnyH_done (by kernel_rfl) ?_ _
        clear hHeld hs0 hs1 hs2 hs3 hs4 hs5 hs6 hs7 hb2 hb3 hb4 hb5 hT hT0 hT1 hT2 hS q0 q1 q2 q3 x5
        have hS := hT3.drop
        go_wp2
        go_roundw
        case rel => exact ⟨j + 1, by omega, by go_num, by rw [HN.out, HJ.out]; simp only [← List.append_assoc, ← txt_app]; rfl, hS⟩
        case measure => simp [intOf]; omega
      · obtain rfl : j = sites.length := by omega
        rw [List.take_length]
        go_wp2
        go_ret
        exact ⟨by rw [E.out]; rfl, hS.bel⟩
  · go_enter Tryd.func46, Tryd.ntmps46
    go_wp2
    go_loopw [4, 5] (fun v i wr => ∃ j : Nat, j ≤ sites.length ∧ i = .int .i64 j ∧ v = .string (txt (forgeL ++ (sites.take j).flatMap siteL)) ∧ St w [Res.box w.heap.size (.cells #[.int .i64 k, .int .i64 a, .int .i64 b, .int .i64 y, .bool true, .slice A sites.length c] 90 (0, 0))] wr) (fun _ i _ => sites.length - (intOf i).toNat)
    case atStart => exact ⟨0, by omega, rfl, rfl, hS⟩
    case round =>
      clear hS
      obtain ⟨j, hj, rfl, rfl, hS⟩ := hrel
      have x5 := hS.cell 0 rfl 5
      by_cases hlt : j < sites.length
      · obtain ⟨s, hs⟩ := get_exU sites j hlt
        obtain ⟨ad, rfl, q0, q1, q2, q3⟩ := kSite_at (hr.below hS.bel) j s hs
        have his := is s (List.mem_of_getElem? hs)
        have HN := Lib.hid (show (sites.take (j + 1)).flatMap siteL = (sites.take j).flatMap siteL ++ siteL s from flatC_step hs)
        have HJ := Lib.hid (show siteL s = [32] ++ ((((((Lib.itoa s.fn ++ [32]) ++ Lib.itoa s.pc) ++ [32]) ++ Lib.itoa s.seen) ++ [32]) ++ Lib.itoa s.target) by unfold siteL siteJ itoas; simp only [List.map_cons, List.map_nil]; rw [join4])
        have hl0 : (forgeL ++ (sites.take j).flatMap siteL).length ≤ 89005 := by
          have := flatC_len (f := siteL) (c := 89) (l := sites.take j) (fun s hs => siteL_len (is s (List.mem_of_mem_take hs)))
          have h5 : forgeL.length = 5 := rfl
          have h6 : (sites.take j).length ≤ 1000 := by rw [List.length_take]; omega
          rw [List.length_append]
          omega
        have z0 := Lib.itoa_length_le s.fn his.1.lo his.1.hi
        have z1 := Lib.itoa_length_le s.pc his.2.1.lo his.2.1.hi
        have z2 := Lib.itoa_length_le s.seen his.2.2.1.lo his.2.2.1.hi
        have z3 := Lib.itoa_length_le s.target his.2.2.2.lo his.2.2.2.hi
        have hT := (hS.made (.cells #[.int .i64 s.fn, .int .i64 s.pc, .int .i64 s.seen, .int .i64 s.target] 119 (0, 0))).drew
        clear hs
        go_wp2
        have hs0 : (9223372036854775807 < (txt (forgeL ++ (sites.take j).flatMap siteL)).size + 1) = False := eq_false (by simp only [txt_size]; omega)
        have hs1 : (9223372036854775807 < (txt (forgeL ++ (sites.take j).flatMap siteL)).size + 1 + (txt (Lib.itoa s.fn)).size) = False := eq_false (by simp only [txt_size]; omega)
        have hs2 : (9223372036854775807 < (txt (forgeL ++ (sites.take j).flatMap siteL)).size + 1 + (txt (Lib.itoa s.fn)).size + 1) = False := eq_false (by simp only [txt_size]; omega)
        have hs3 : (9223372036854775807 < (txt (forgeL ++ (sites.take j).flatMap siteL)).size + 1 + (txt (Lib.itoa s.fn)).size + 1 + (txt (Lib.itoa s.pc)).size) = False := eq_false (by simp only [txt_size]; omega)
        have hs4 : (9223372036854775807 < (txt (forgeL ++ (sites.take j).flatMap siteL)).size + 1 + (txt (Lib.itoa s.fn)).size + 1 + (txt (Lib.itoa s.pc)).size + 1) = False := eq_false (by simp only [txt_size]; omega)
        have hs5 : (9223372036854775807 < (txt (forgeL ++ (sites.take j).flatMap siteL)).size + 1 + (txt (Lib.itoa s.fn)).size + 1 + (txt (Lib.itoa s.pc)).size + 1 + (txt (Lib.itoa s.seen)).size) = False := eq_false (by simp only [txt_size]; omega)
        have hs6 : (9223372036854775807 < (txt (forgeL ++ (sites.take j).flatMap siteL)).size + 1 + (txt (Lib.itoa s.fn)).size + 1 + (txt (Lib.itoa s.pc)).size + 1 + (txt (Lib.itoa s.seen)).size + 1) = False := eq_false (by simp only [txt_size]; omega)
        have hs7 : (9223372036854775807 < (txt (forgeL ++ (sites.take j).flatMap siteL)).size + 1 + (txt (Lib.itoa s.fn)).size + 1 + (txt (Lib.itoa s.pc)).size + 1 + (txt (Lib.itoa s.seen)).size + 1 + (txt (Lib.itoa s.target)).size) = False := eq_false (by simp only [txt_size]; omega)
        clear z0 z1 z2 z3 hl0
        refine wp_region_held_drew (S := (fun w' => w'.cell? ⟨wr.heap.size, 0, none⟩ = some (.int .i64 s.fn) ∧ w'.cell? ⟨wr.heap.size, 1, none⟩ = some (.int .i64 s.pc) ∧ w'.cell? ⟨wr.heap.size, 2, none⟩ = some (.int .i64 s.seen) ∧ w'.cell? ⟨wr.heap.size, 3, none⟩ = some (.int .i64 s.target))) (by kernel_rfl) (⟨hT.cell 0 rfl 0, hT.cell 0 rfl 1, hT.cell 0 rfl 2, hT.cell 0 rfl 3⟩) (fun hHeld => ?_)
        first | (refine regW 0 (v := ?_) rfl (by rfl) (by kernel_rfl) (fun _ _ _ h => h) ?_ (by assumption) ?_; rotate_left; focus (intro w9 hSw; (try dsimp only at hSw); go_simp; (try with_reducible rfl); done)) | refine regU 0 rfl (by rfl) (by kernel_rfl) (fun _ _ _ h => h) (by assumption) ?_ | refine regN 0 rfl (by rfl) (by kernel_rfl) (by assumption) ?_
        try simp only [Act.put, List.setIfInBounds_toArray, List.set_cons_zero, List.set_cons_succ]
        first | (refine regW 2 (v := ?_) rfl (by rfl) (by kernel_rfl) (fun _ _ _ h => h) ?_ (by assumption) ?_; rotate_left; focus (intro w9 hSw; (try dsimp only at hSw); go_simp; (try with_reducible rfl); done)) | refine regU 2 rfl (by rfl) (by kernel_rfl) (fun _ _ _ h => h) (by assumption) ?_ | refine regN 2 rfl (by rfl) (by kernel_rfl) (by assumption) ?_
        try simp only [Act.put, List.setIfInBounds_toArray, List.set_cons_zero, List.set_cons_succ]
        first | (refine regW 3 (v := ?_) rfl (by rfl) (by kernel_rfl) (fun _ _ _ h => h) ?_ (by assumption) ?_; rotate_left; focus (intro w9 hSw; (try dsimp only at hSw); go_simp; (try with_reducible rfl); done)) | refine regU 3 rfl (by rfl) (by kernel_rfl) (fun _ _ _ h => h) (by assumption) ?_ | refine regN 3 rfl (by rfl) (by kernel_rfl) (by assumption) ?_
        try simp only [Act.put, List.setIfInBounds_toArray, List.set_cons_zero, List.set_cons_succ]
        first | (refine regW 7 (v := ?_) rfl (by rfl) (by kernel_rfl) (fun _ _ _ h => h) ?_ (by assumption) ?_; rotate_left; focus (intro w9 hSw; (try dsimp only at hSw); go_simp; (try with_reducible rfl); done)) | refine regU 7 rfl (by rfl) (by kernel_rfl) (fun _ _ _ h => h) (by assumption) ?_ | refine regN 7 rfl (by rfl) (by kernel_rfl) (by assumption) ?_
        try simp only [Act.put, List.setIfInBounds_toArray, List.set_cons_zero, List.set_cons_succ]
        first | (refine regW 8 (v := ?_) rfl (by rfl) (by kernel_rfl) (fun _ _ _ h => h) ?_ (by assumption) ?_; rotate_left; focus (intro w9 hSw; (try dsimp only at hSw); go_simp; (try with_reducible rfl); done)) | refine regU 8 rfl (by rfl) (by kernel_rfl) (fun _ _ _ h => h) (by assumption) ?_ | refine regN 8 rfl (by rfl) (by kernel_rfl) (by assumption) ?_
        try simp only [Act.put, List.setIfInBounds_toArray, List.set_cons_zero, List.set_cons_succ]
        first | (refine regW 12 (v := ?_) rfl (by rfl) (by kernel_rfl) (fun _ _ _ h => h) ?_ (by assumption) ?_; rotate_left; focus (intro w9 hSw; (try dsimp only at hSw); go_simp; (try with_reducible rfl); done)) | refine regU 12 rfl (by rfl) (by kernel_rfl) (fun _ _ _ h => h) (by assumption) ?_ | refine regN 12 rfl (by rfl) (by kernel_rfl) (by assumption) ?_
        try simp only [Act.put, List.setIfInBounds_toArray, List.set_cons_zero, List.set_cons_succ]
        first | (refine regW 13 (v := ?_) rfl (by rfl) (by kernel_rfl) (fun _ _ _ h => h) ?_ (by assumption) ?_; rotate_left; focus (intro w9 hSw; (try dsimp only at hSw); go_simp; (try with_reducible rfl); done)) | refine regU 13 rfl (by rfl) (by kernel_rfl) (fun _ _ _ h => h) (by assumption) ?_ | refine regN 13 rfl (by rfl) (by kernel_rfl) (by assumption) ?_
        try simp only [Act.put, List.setIfInBounds_toArray, List.set_cons_zero, List.set_cons_succ]
        first | (refine regW 17 (v := ?_) rfl (by rfl) (by kernel_rfl) (fun _ _ _ h => h) ?_ (by assumption) ?_; rotate_left; focus (intro w9 hSw; (try dsimp only at hSw); go_simp; (try with_reducible rfl); done)) | refine regU 17 rfl (by rfl) (by kernel_rfl) (fun _ _ _ h => h) (by assumption) ?_ | refine regN 17 rfl (by rfl) (by kernel_rfl) (by assumption) ?_
        try simp only [Act.put, List.setIfInBounds_toArray, List.set_cons_zero, List.set_cons_succ]
        first | (refine regW 18 (v := ?_) rfl (by rfl) (by kernel_rfl) (fun _ _ _ h => h) ?_ (by assumption) ?_; rotate_left; focus (intro w9 hSw; (try dsimp only at hSw); go_simp; (try with_reducible rfl); done)) | refine regU 18 rfl (by rfl) (by kernel_rfl) (fun _ _ _ h => h) (by assumption) ?_ | refine regN 18 rfl (by rfl) (by kernel_rfl) (by assumption) ?_
        try simp only [Act.put, List.setIfInBounds_toArray, List.set_cons_zero, List.set_cons_succ]
        first | (refine regW 1 (v := ?_) rfl (by rfl) (by kernel_rfl) (fun _ _ _ h => h) ?_ (by assumption) ?_; rotate_left; focus (intro w9 hSw; (try dsimp only at hSw); go_simp; (try with_reducible rfl); done)) | refine regU 1 rfl (by rfl) (by kernel_rfl) (fun _ _ _ h => h) (by assumption) ?_ | refine regN 1 rfl (by rfl) (by kernel_rfl) (by assumption) ?_
        try simp only [Act.put, List.setIfInBounds_toArray, List.set_cons_zero, List.set_cons_succ]
        refine regC 4 rfl (by kernel_rfl) (by rfl) (fun Kq hKq => ?_)
        go_simp
        (with_reducible refine (dig3 s.fn his.1.lo his.1.hi _).mono ?_)
        rintro e w2 ⟨rfl, hb2⟩; have hT0 := hT.step hb2
        try go_wp2_with fail
        refine hKq.out _ _ (⟨hT0.cell 0 rfl 0, hT0.cell 0 rfl 1, hT0.cell 0 rfl 2, hT0.cell 0 rfl 3⟩) (fun hHeld => ?_)
        clear hKq Kq
        (try simp only [Act.put, List.setIfInBounds_toArray, List.set_cons_zero, List.set_cons_succ])
        first | (refine regW 5 (v := ?_) rfl (by rfl) (by kernel_rfl) (fun _ _ _ h => h) ?_ (by assumption) ?_; rotate_left; focus (intro w9 hSw; (try dsimp only at hSw); go_simp; (try with_reducible rfl); done)) | refine regU 5 rfl (by rfl) (by kernel_rfl) (fun _ _ _ h => h) (by assumption) ?_ | refine regN 5 rfl (by rfl) (by kernel_rfl) (by assumption) ?_
        try simp only [Act.put, List.setIfInBounds_toArray, List.set_cons_zero, List.set_cons_succ]
        first | (refine regW 6 (v := ?_) rfl (by rfl) (by kernel_rfl) (fun _ _ _ h => h) ?_ (by assumption) ?_; rotate_left; focus (intro w9 hSw; (try dsimp only at hSw); go_simp; (try with_reducible rfl); done)) | refine regU 6 rfl (by rfl) (by kernel_rfl) (fun _ _ _ h => h) (by assumption) ?_ | refine regN 6 rfl (by rfl) (by kernel_rfl) (by assumption) ?_
        try simp only [Act.put, List.setIfInBounds_toArray, List.set_cons_zero, List.set_cons_succ]
        refine regC 9 rfl (by kernel_rfl) (by rfl) (fun Kq hKq => ?_)
        go_simp
        (with_reducible refine (dig3 s.pc his.2.1.lo his.2.1.hi _).mono ?_)
        rintro e w3 ⟨rfl, hb3⟩; have hT1 := hT0.step hb3
        try go_wp2_with fail
        refine hKq.out _ _ (⟨hT1.cell 0 rfl 0, hT1.cell 0 rfl 1, hT1.cell 0 rfl 2, hT1.cell 0 rfl 3⟩) (fun hHeld => ?_)
        clear hKq Kq
        (try simp only [Act.put, List.setIfInBounds_toArray, List.set_cons_zero, List.set_cons_succ])
        first | (refine regW 10 (v := ?_) rfl (by rfl) (by kernel_rfl) (fun _ _ _ h => h) ?_ (by assumption) ?_; rotate_left; focus (intro w9 hSw; (try dsimp only at hSw); go_simp; (try with_reducible rfl); done)) | refine regU 10 rfl (by rfl) (by kernel_rfl) (fun _ _ _ h => h) (by assumption) ?_ | refine regN 10 rfl (by rfl) (by kernel_rfl) (by assumption) ?_
        try simp only [Act.put, List.setIfInBounds_toArray, List.set_cons_zero, List.set_cons_succ]
        first | (refine regW 11 (v := ?_) rfl (by rfl) (by kernel_rfl) (fun _ _ _ h => h) ?_ (by assumption) ?_; rotate_left; focus (intro w9 hSw; (try dsimp only at hSw); go_simp; (try with_reducible rfl); done)) | refine regU 11 rfl (by rfl) (by kernel_rfl) (fun _ _ _ h => h) (by assumption) ?_ | refine regN 11 rfl (by rfl) (by kernel_rfl) (by assumption) ?_
        try simp only [Act.put, List.setIfInBounds_toArray, List.set_cons_zero, List.set_cons_succ]
        refine regC 14 rfl (by kernel_rfl) (by rfl) (fun Kq hKq => ?_)
        go_simp
        (with_reducible refine (dig3 s.seen his.2.2.1.lo his.2.2.1.hi _).mono ?_)
        rintro e w4 ⟨rfl, hb4⟩; have hT2 := hT1.step hb4
        try go_wp2_with fail
        refine hKq.out _ _ (⟨hT2.cell 0 rfl 0, hT2.cell 0 rfl 1, hT2.cell 0 rfl 2, hT2.cell 0 rfl 3⟩) (fun hHeld => ?_)
        clear hKq Kq
        (try simp only [Act.put, List.setIfInBounds_toArray, List.set_cons_zero, List.set_cons_succ])
        first | (refine regW 15 (v := ?_) rfl (by rfl) (by kernel_rfl) (fun _ _ _ h => h) ?_ (by assumption) ?_; rotate_left; focus (intro w9 hSw; (try dsimp only at hSw); go_simp; (try with_reducible rfl); done)) | refine regU 15 rfl (by rfl) (by kernel_rfl) (fun _ _ _ h => h) (by assumption) ?_ | refine regN 15 rfl (by rfl) (by kernel_rfl) (by assumption) ?_
        try simp only [Act.put, List.setIfInBounds_toArray, List.set_cons_zero, List.set_cons_succ]
        first | (refine regW 16 (v := ?_) rfl (by rfl) (by kernel_rfl) (fun _ _ _ h => h) ?_ (by assumption) ?_; rotate_left; focus (intro w9 hSw; (try dsimp only at hSw); go_simp; (try with_reducible rfl); done)) | refine regU 16 rfl (by rfl) (by kernel_rfl) (fun _ _ _ h => h) (by assumption) ?_ | refine regN 16 rfl (by rfl) (by kernel_rfl) (by assumption) ?_
        try simp only [Act.put, List.setIfInBounds_toArray, List.set_cons_zero, List.set_cons_succ]
        refine regC 19 rfl (by kernel_rfl) (by rfl) (fun Kq hKq => ?_)
        go_simp
        (with_reducible refine (dig3 s.target his.2.2.2.lo his.2.2.2.hi _).mono ?_)
        rintro e w5 ⟨rfl, hb5⟩; have hT3 := hT2.step hb5
        try go_wp2_with fail
        refine hKq.out _ _ (⟨hT3.cell 0 rfl 0, hT3.cell 0 rfl 1, hT3.cell 0 rfl 2, hT3.cell 0 rfl 3⟩) (fun hHeld => ?_)
        clear hKq Kq
        (try simp only [Act.put, List.setIfInBounds_toArray, List.set_cons_zero, List.set_cons_succ])
        first | (refine regW 20 (v := ?_) rfl (by rfl) (by kernel_rfl) (fun _ _ _ h => h) ?_ (by assumption) ?_; rotate_left; focus (intro w9 hSw; (try dsimp only at hSw); go_simp; (try with_reducible rfl); done)) | refine regU 20 rfl (by rfl) (by kernel_rfl) (fun _ _ _ h => h) (by assumption) ?_ | refine regN 20 rfl (by rfl) (by kernel_rfl) (by assumption) ?_
        try simp only [Act.put, List.setIfInBounds_toArray, List.set_cons_zero, List.set_cons_succ]
        first | (refine regW 21 (v := ?_) rfl (by rfl) (by kernel_rfl) (fun _ _ _ h => h) ?_ (by assumption) ?_; rotate_left; focus (intro w9 hSw; (try dsimp only at hSw); go_simp; (try with_reducible rfl); done)) | refine regU 21 rfl (by rfl) (by kernel_rfl) (fun _ _ _ h => h) (by assumption) ?_ | refine regN 21 rfl (by rfl) (by kernel_rfl) (by assumption) ?_
        try simp only [Act.put, List.setIfInBounds_toArray, List.set_cons_zero, List.set_cons_succ]
        refine wpAnyH_done (by kernel_rfl) ?_ _
        clear hHeld hs0 hs1 hs2 hs3 hs4 hs5 hs6 hs7 hb2 hb3 hb4 hb5 hT hT0 hT1 hT2 hS q0 q1 q2 q3 x5
        have hS := hT3.drop
        go_wp2
        go_roundw
        case rel => exact ⟨j + 1, by omega, by go_num, by rw [HN.out, HJ.out]; simp only [← List.append_assoc, ← txt_app]; rfl, hS⟩
        case measure => simp [intOf]; omega
      · obtain rfl : j = sites.length := by omega
        rw [List.take_length]
        go_wp2
        go_ret
        exact ⟨by rw [E.out]; rfl, hS.bel⟩
end Go.Proofs.YtpjdecneeakkeaaDoor.Dat
