/- Start, in the reference. -/
import Derived.Test.YticlknijmnddeaaGreatStartX
namespace Go.Proofs.YticlknijmnddeaaGreat.Dat
open Go Go.RowKit Go.Proofs.YticlknijmnddeaaGreat.Mem
set_option linter.unusedVariables false
set_option linter.unusedSimpArgs false
theorem part_set2 {α : Type} (l : List α) (z x : α) (k N : Nat) (hx : l[k]? = some x) (hN : l.length ≤ N) : (l.take k ++ List.replicate (N - k) z).set k x = l.take (k + 1) ++ List.replicate (N - (k + 1)) z := by
  have hk : k < l.length := (List.getElem?_eq_some_iff.1 hx).1
  obtain ⟨m, hm⟩ : ∃ m, N - k = m + 1 := ⟨N - k - 1, by omega⟩
  have e2 : N - (k + 1) = m := by omega
  rw [hm, e2, List.set_append_right _ _ (by rw [List.length_take]; omega), List.length_take, Nat.min_eq_left (by omega), Nat.sub_self, List.replicate_succ, List.set_cons_zero, List.take_add_one, hx]
  simp
theorem all_takeS {α : Type} {p : α → Bool} {l : List α} {k : Nat} {x : α} (h : l[k]? = some x) (ha : (l.take k).all p = true) (hx : p x = true) : (l.take (k + 1)).all p = true := by
  rw [List.take_add_one, h, List.all_append, ha]
  simp [hx]
theorem valO (w : World) (x : DValue) (cs : List Value) (F : List Nat) (h : kValue.O w x cs F) : F = [] := (kValue_Oi.1 h).2
theorem argsB_all {y : DFunc} {n : Nat} {args : List DValue} (h1 : (args.length : Int) = y.params) (h2 : args.all (fun v => valB n 0 v) = true) : argsB y n args = true := by
  unfold argsB
  rw [decide_eq_true h1, Bool.true_and, Bool.not_eq_true', List.any_eq_false]
  intro v hv
  rw [List.all_eq_true] at h2
  simpa using h2 v hv
theorem argsB_no {y : DFunc} {n : Nat} {args : List DValue} {v : DValue} (hv : v ∈ args) (h : valB n 0 v = false) : argsB y n args = false := by
  unfold argsB
  have : (args.any fun v => !valB n 0 v) = true := List.any_eq_true.2 ⟨v, hv, by rw [h]; rfl⟩
  rw [this]
  simp
set_option maxHeartbeats 16000000 in
set_option maxRecDepth 100000 in
theorem start3 (A B D : Option Addr) (c d e0 : Nat) (t : List ByteArray) (l : List DFunc) (args : List DValue) (w : World) (h : HasMod A B t l w) (hr : kValue.Row w D args.length args) (hm : args.length ≤ 1048576 ∧ ∀ y ∈ args, MValue y) {X : DVm} (hX : startV t l args = X) :
    Calls Tryz.prog 115 #[.agg #[.slice A t.length c, .slice B l.length d], .slice D args.length e0] w (fun en w' => ∃ (v0 v1 v3 : Value) (F0 F1 F3 : List Nat), en = .returned (.tuple #[.agg #[v0, v1, .int .i64 X.made, v3, .int .i64 X.status, .int .i64 X.trap, .int .i64 X.value.k, .int .i64 X.value.n, .string X.value.s, .int .i64 X.steps], .bool (startB t l args)]) ∧ St w [Res.own kFrame 107 v0 X.frames F0, Res.own kRec 110 v1 X.heap F1, Res.own Knd.str 9 v3 X.out F3] w') := by
  have hS := ((St.start w).made (.cells #[.slice A t.length c, .slice B l.length d] 37 (0, 0))).madeAt (.cells #[.slice none 0 0, .slice none 0 0, .int .i64 0, .slice none 0 0, .int .i64 0, .int .i64 0, .int .i64 0, .int .i64 0, .string (⟨#[]⟩ : ByteArray), .int .i64 0] 43 (0, 0)) (w.heap.size + 1) (by simp)
  cases hg : isGoodB t l
  · have ES := Lib.hid (startB_no (args := args) hg)
    obtain rfl : X = zVm := by rw [← hX, startV_no ES.out]
    have HG := Lib.hid hg
    clear hg hX
    go_enter Tryz.func115, Tryz.ntmps115
    go_wp2_with fail
    refine (good03 A B c d t l _ (h.below hS.bel) HG.out).mono ?_
    rintro e w1 ⟨rfl, hb⟩
    replace hS := hS.step hb
    have x0 := hS.cell 0 rfl
    have f0 := hS.free 0 rfl
    go_wp2
    have hS2 := ((((((((((hS.set 0 rfl 0 (.slice none 0 0)).set 0 rfl 1 (.slice none 0 0)).set 0 rfl 2 (.int .i64 0)).set 0 rfl 3 (.slice none 0 0)).set 0 rfl 4 (.int .i64 0)).set 0 rfl 5 (.int .i64 0)).set 0 rfl 6 (.int .i64 0)).set 0 rfl 7 (.int .i64 0)).set 0 rfl 8 (.string (⟨#[]⟩ : ByteArray))).set 0 rfl 9 (.int .i64 0))
    have y0 := hS2.cell 0 rfl 0
    have y1 := hS2.cell 0 rfl 1
    have y2 := hS2.cell 0 rfl 2
    have y3 := hS2.cell 0 rfl 3
    have y4 := hS2.cell 0 rfl 4
    have y5 := hS2.cell 0 rfl 5
    have y6 := hS2.cell 0 rfl 6
    have y7 := hS2.cell 0 rfl 7
    have y8 := hS2.cell 0 rfl 8
    have y9 := hS2.cell 0 rfl 9
    refine bodyPost_ret (v := .tuple #[.agg #[.slice none 0 0, .slice none 0 0, .int .i64 0, .slice none 0 0, .int .i64 0, .int .i64 0, .int .i64 0, .int .i64 0, .string (⟨#[]⟩ : ByteArray), .int .i64 0], .bool false]) (by simp [results, Tryz.results115, go_sem, *]) rfl ?_
    exact ⟨_, _, _, [], [], [], by rw [ES.out]; rfl, (((hS2.drop.drop).nil_ Knd.str 9).nil_ kRec 110).nil_ kFrame 107⟩
  obtain ⟨y, hy, ey⟩ := good_y hg
  have HG := Lib.hid hg
  have hms : ∀ x ∈ args, x.s.size ≤ maxLen := fun x hx => Nat.le_trans (hm.2 x hx) (by unfold maxLen; omega)
  have hl0 : 0 < l.length := (List.getElem?_eq_some_iff.1 hy).1
  have hll := h.hm
  have htl := h.htm
  have hrB := h.hr
  obtain ⟨adB, A2, c2, rfl, q0, q1, q2, _, _⟩ := kFunc_at hrB 0 y hy
  rw [Nat.zero_mul, show adB.add 0 = adB by simp [Addr.add]] at q0 q1 q2
  by_cases hp : (args.length : Int) = y.params
  rotate_left
  · have ES := Lib.hid (show startB t l args = false by unfold startB argsB; rw [ey, decide_eq_false hp]; simp)
    obtain rfl : X = zVm := by rw [← hX, startV_no ES.out]
    have hp2 : ((args.length : Int) == y.params) = false := by simpa using hp
    clear hg hX hy ey hp
    go_enter Tryz.func115, Tryz.ntmps115
    go_wp2_with fail
    refine (good03 A (some adB) c d t l _ (h.below hS.bel) HG.out).mono ?_
    rintro e w1 ⟨rfl, hb⟩
    replace hS := hS.step hb
    clear hb
    have x1 := hS.cell 1 rfl
    have p0 := kept hS.bel q0
    have x0 := hS.cell 0 rfl
    have f0 := hS.free 0 rfl
    go_wp2
    have hS2 := ((((((((((hS.set 0 rfl 0 (.slice none 0 0)).set 0 rfl 1 (.slice none 0 0)).set 0 rfl 2 (.int .i64 0)).set 0 rfl 3 (.slice none 0 0)).set 0 rfl 4 (.int .i64 0)).set 0 rfl 5 (.int .i64 0)).set 0 rfl 6 (.int .i64 0)).set 0 rfl 7 (.int .i64 0)).set 0 rfl 8 (.string (⟨#[]⟩ : ByteArray))).set 0 rfl 9 (.int .i64 0))
    have y0 := hS2.cell 0 rfl 0
    have y1 := hS2.cell 0 rfl 1
    have y2 := hS2.cell 0 rfl 2
    have y3 := hS2.cell 0 rfl 3
    have y4 := hS2.cell 0 rfl 4
    have y5 := hS2.cell 0 rfl 5
    have y6 := hS2.cell 0 rfl 6
    have y7 := hS2.cell 0 rfl 7
    have y8 := hS2.cell 0 rfl 8
    have y9 := hS2.cell 0 rfl 9
    refine bodyPost_ret (v := .tuple #[.agg #[.slice none 0 0, .slice none 0 0, .int .i64 0, .slice none 0 0, .int .i64 0, .int .i64 0, .int .i64 0, .int .i64 0, .string (⟨#[]⟩ : ByteArray), .int .i64 0], .bool false]) (by simp [results, Tryz.results115, go_sem, *]) rfl ?_
    exact ⟨_, _, _, [], [], [], by rw [ES.out]; rfl, (((hS2.drop.drop).nil_ Knd.str 9).nil_ kRec 110).nil_ kFrame 107⟩
  have hp2 : ((args.length : Int) == y.params) = true := by simpa using hp
  have hp3 : ((args.length : Int) != y.params) = false := by simpa using hp
  have HY := Lib.hid hy
  have HP := Lib.hid hp
  have EY := Lib.hid ey
  have HX := Lib.hid hX
  clear hg hX hy ey hp
  go_enter Tryz.func115, Tryz.ntmps115
  go_wp2_with fail
  refine (good03 A (some adB) c d t l _ (h.below hS.bel) HG.out).mono ?_
  rintro e w1 ⟨rfl, hb⟩
  replace hS := hS.step hb
  clear hb
  have x1 := hS.cell 1 rfl
  have p0 := kept hS.bel q0
  go_wp2
  go_loopw [6] (fun i wr => ∃ k : Nat, k ≤ args.length ∧ i = .int .i64 k ∧ (args.take k).all (fun v => valB l.length 0 v) = true ∧ St w [Res.box (w.heap.size + 1) (.cells #[.slice none 0 0, .slice none 0 0, .int .i64 0, .slice none 0 0, .int .i64 0, .int .i64 0, .int .i64 0, .int .i64 0, .string (⟨#[]⟩ : ByteArray), .int .i64 0] 43 (0, 0)), Res.box w.heap.size (.cells #[.slice A t.length c, .slice (some adB) l.length d] 37 (0, 0))] wr) (fun i _ => args.length - (intOf i).toNat)
  case atStart => exact ⟨0, by omega, rfl, rfl, hS⟩
  case round =>
    clear hS x1 p0
    obtain ⟨k, hk, rfl, hall, hS⟩ := hrel
    by_cases hlt : k < args.length
    · obtain ⟨x, hx⟩ := get_exU args k hlt
      have hxl := List.mem_of_getElem? hx
      have hsx := hms x hxl
      have hD := hS.drew
      obtain ⟨ad, rfl, r0, r1, r2⟩ := kValue_at (hr.below hD.bel) k x hx
      have CV := fun W => val3 l.length 0 A (some adB) c d t.length l.length x W hsx (by omega) (by omega) (by omega) (by omega) rfl
      cases hv : valB l.length 0 x
      · have ES := Lib.hid (show startB t l args = false by unfold startB; rw [EY.out, argsB_no hxl hv, Bool.and_false])
        obtain rfl : X = zVm := by rw [← HX.out, startV_no ES.out]
        rw [hv] at CV
        have HV := Lib.hid hall
        clear hv hx hall
        go_wp2
        refine wp_region_held_drew (S := (fun w' => w'.cell? ⟨w.heap.size, 0, none⟩ = some (.slice A t.length c) ∧ w'.cell? ⟨w.heap.size, 1, none⟩ = some (.slice (some adB) l.length d) ∧ w'.cell? (ad.add (k * 3)) = some (.int .i64 x.k) ∧ w'.cell? ⟨(ad.add (k * 3)).block, (ad.add (k * 3)).off + 1, none⟩ = some (.int .i64 x.n) ∧ w'.cell? ⟨(ad.add (k * 3)).block, (ad.add (k * 3)).off + 2, none⟩ = some (.string x.s))) (by kernel_rfl) (⟨hD.cell 1 rfl 0, hD.cell 1 rfl 1, r0, r1, r2⟩) (fun hHeld => ?_)
        first | (refine regW 0 (v := ?_) rfl (by rfl) (by kernel_rfl) (fun _ _ _ h => h) ?_ (by assumption) ?_; rotate_left; focus (intro w9 hSw; (try dsimp only at hSw); go_simp; (try with_reducible rfl); done)) | refine regU 0 rfl (by rfl) (by kernel_rfl) (fun _ _ _ h => h) (by assumption) ?_ | refine regN 0 rfl (by rfl) (by kernel_rfl) (by assumption) ?_
        try simp only [Act.put, List.setIfInBounds_toArray, List.set_cons_zero, List.set_cons_succ]
        first | (refine regW 1 (v := ?_) rfl (by rfl) (by kernel_rfl) (fun _ _ _ h => h) ?_ (by assumption) ?_; rotate_left; focus (intro w9 hSw; (try dsimp only at hSw); go_simp; (try with_reducible rfl); done)) | refine regU 1 rfl (by rfl) (by kernel_rfl) (fun _ _ _ h => h) (by assumption) ?_ | refine regN 1 rfl (by rfl) (by kernel_rfl) (by assumption) ?_
        try simp only [Act.put, List.setIfInBounds_toArray, List.set_cons_zero, List.set_cons_succ]
        first | (refine regW 2 (v := ?_) rfl (by rfl) (by kernel_rfl) (fun _ _ _ h => h) ?_ (by assumption) ?_; rotate_left; focus (intro w9 hSw; (try dsimp only at hSw); go_simp; (try with_reducible rfl); done)) | refine regU 2 rfl (by rfl) (by kernel_rfl) (fun _ _ _ h => h) (by assumption) ?_ | refine regN 2 rfl (by rfl) (by kernel_rfl) (by assumption) ?_
        try simp only [Act.put, List.setIfInBounds_toArray, List.set_cons_zero, List.set_cons_succ]
        first | (refine regW 3 (v := ?_) rfl (by rfl) (by kernel_rfl) (fun _ _ _ h => h) ?_ (by assumption) ?_; rotate_left; focus (intro w9 hSw; (try dsimp only at hSw); go_simp; (try with_reducible rfl); done)) | refine regU 3 rfl (by rfl) (by kernel_rfl) (fun _ _ _ h => h) (by assumption) ?_ | refine regN 3 rfl (by rfl) (by kernel_rfl) (by assumption) ?_
        try simp only [Act.put, List.setIfInBounds_toArray, List.set_cons_zero, List.set_cons_succ]
        first | (refine regW 4 (v := ?_) rfl (by rfl) (by kernel_rfl) (fun _ _ _ h => h) ?_ (by assumption) ?_; rotate_left; focus (intro w9 hSw; (try dsimp only at hSw); go_simp; (try with_reducible rfl); done)) | refine regU 4 rfl (by rfl) (by kernel_rfl) (fun _ _ _ h => h) (by assumption) ?_ | refine regN 4 rfl (by rfl) (by kernel_rfl) (by assumption) ?_
        try simp only [Act.put, List.setIfInBounds_toArray, List.set_cons_zero, List.set_cons_succ]
        refine regC 5 rfl (by kernel_rfl) (by rfl) (fun Kq hKq => ?_)
        go_simp
        (with_reducible refine (CV _).mono ?_)
        rintro e w2 ⟨rfl, hb2⟩; have hT := hD.step hb2
        try go_wp2_with fail
        refine hKq.out _ _ (⟨hT.cell 1 rfl 0, hT.cell 1 rfl 1, kept hb2 r0, kept hb2 r1, kept hb2 r2⟩) (fun hHeld => ?_)
        clear hKq Kq
        (try simp only [Act.put, List.setIfInBounds_toArray, List.set_cons_zero, List.set_cons_succ])
        first | (refine regW 6 (v := ?_) rfl (by rfl) (by kernel_rfl) (fun _ _ _ h => h) ?_ (by assumption) ?_; rotate_left; focus (intro w9 hSw; (try dsimp only at hSw); go_simp; (try with_reducible rfl); done)) | refine regU 6 rfl (by rfl) (by kernel_rfl) (fun _ _ _ h => h) (by assumption) ?_ | refine regN 6 rfl (by rfl) (by kernel_rfl) (by assumption) ?_
        try simp only [Act.put, List.setIfInBounds_toArray, List.set_cons_zero, List.set_cons_succ]
        refine wpAnyH_done (by kernel_rfl) ?_ _
        clear hHeld CV r0 r1 r2 hS hD
        have hS := hT
        have x0 := hS.cell 0 rfl
        have f0 := hS.free 0 rfl
        go_wp2
        have hS2 := ((((((((((hS.set 0 rfl 0 (.slice none 0 0)).set 0 rfl 1 (.slice none 0 0)).set 0 rfl 2 (.int .i64 0)).set 0 rfl 3 (.slice none 0 0)).set 0 rfl 4 (.int .i64 0)).set 0 rfl 5 (.int .i64 0)).set 0 rfl 6 (.int .i64 0)).set 0 rfl 7 (.int .i64 0)).set 0 rfl 8 (.string (⟨#[]⟩ : ByteArray))).set 0 rfl 9 (.int .i64 0))
        have y0 := hS2.cell 0 rfl 0
        have y1 := hS2.cell 0 rfl 1
        have y2 := hS2.cell 0 rfl 2
        have y3 := hS2.cell 0 rfl 3
        have y4 := hS2.cell 0 rfl 4
        have y5 := hS2.cell 0 rfl 5
        have y6 := hS2.cell 0 rfl 6
        have y7 := hS2.cell 0 rfl 7
        have y8 := hS2.cell 0 rfl 8
        have y9 := hS2.cell 0 rfl 9
        refine bodyPost_ret (v := .tuple #[.agg #[.slice none 0 0, .slice none 0 0, .int .i64 0, .slice none 0 0, .int .i64 0, .int .i64 0, .int .i64 0, .int .i64 0, .string (⟨#[]⟩ : ByteArray), .int .i64 0], .bool false]) (by simp [results, Tryz.results115, go_sem, *]) rfl ?_
        exact ⟨_, _, _, [], [], [], by rw [ES.out]; rfl, (((hS2.drop.drop).nil_ Knd.str 9).nil_ kRec 110).nil_ kFrame 107⟩
      · have HN := Lib.hid (all_takeS hx hall hv)
        rw [hv] at CV
        clear hv hx hall
        go_wp2
        refine wp_region_held_drew (S := (fun w' => w'.cell? ⟨w.heap.size, 0, none⟩ = some (.slice A t.length c) ∧ w'.cell? ⟨w.heap.size, 1, none⟩ = some (.slice (some adB) l.length d) ∧ w'.cell? (ad.add (k * 3)) = some (.int .i64 x.k) ∧ w'.cell? ⟨(ad.add (k * 3)).block, (ad.add (k * 3)).off + 1, none⟩ = some (.int .i64 x.n) ∧ w'.cell? ⟨(ad.add (k * 3)).block, (ad.add (k * 3)).off + 2, none⟩ = some (.string x.s))) (by kernel_rfl) (⟨hD.cell 1 rfl 0, hD.cell 1 rfl 1, r0, r1, r2⟩) (fun hHeld => ?_)
        first | (refine regW 0 (v := ?_) rfl (by rfl) (by kernel_rfl) (fun _ _ _ h => h) ?_ (by assumption) ?_; rotate_left; focus (intro w9 hSw; (try dsimp only at hSw); go_simp; (try with_reducible rfl); done)) | refine regU 0 rfl (by rfl) (by kernel_rfl) (fun _ _ _ h => h) (by assumption) ?_ | refine regN 0 rfl (by rfl) (by kernel_rfl) (by assumption) ?_
        try simp only [Act.put, List.setIfInBounds_toArray, List.set_cons_zero, List.set_cons_succ]
        first | (refine regW 1 (v := ?_) rfl (by rfl) (by kernel_rfl) (fun _ _ _ h => h) ?_ (by assumption) ?_; rotate_left; focus (intro w9 hSw; (try dsimp only at hSw); go_simp; (try with_reducible rfl); done)) | refine regU 1 rfl (by rfl) (by kernel_rfl) (fun _ _ _ h => h) (by assumption) ?_ | refine regN 1 rfl (by rfl) (by kernel_rfl) (by assumption) ?_
        try simp only [Act.put, List.setIfInBounds_toArray, List.set_cons_zero, List.set_cons_succ]
        first | (refine regW 2 (v := ?_) rfl (by rfl) (by kernel_rfl) (fun _ _ _ h => h) ?_ (by assumption) ?_; rotate_left; focus (intro w9 hSw; (try dsimp only at hSw); go_simp; (try with_reducible rfl); done)) | refine regU 2 rfl (by rfl) (by kernel_rfl) (fun _ _ _ h => h) (by assumption) ?_ | refine regN 2 rfl (by rfl) (by kernel_rfl) (by assumption) ?_
        try simp only [Act.put, List.setIfInBounds_toArray, List.set_cons_zero, List.set_cons_succ]
        first | (refine regW 3 (v := ?_) rfl (by rfl) (by kernel_rfl) (fun _ _ _ h => h) ?_ (by assumption) ?_; rotate_left; focus (intro w9 hSw; (try dsimp only at hSw); go_simp; (try with_reducible rfl); done)) | refine regU 3 rfl (by rfl) (by kernel_rfl) (fun _ _ _ h => h) (by assumption) ?_ | refine regN 3 rfl (by rfl) (by kernel_rfl) (by assumption) ?_
        try simp only [Act.put, List.setIfInBounds_toArray, List.set_cons_zero, List.set_cons_succ]
        first | (refine regW 4 (v := ?_) rfl (by rfl) (by kernel_rfl) (fun _ _ _ h => h) ?_ (by assumption) ?_; rotate_left; focus (intro w9 hSw; (try dsimp only at hSw); go_simp; (try with_reducible rfl); done)) | refine regU 4 rfl (by rfl) (by kernel_rfl) (fun _ _ _ h => h) (by assumption) ?_ | refine regN 4 rfl (by rfl) (by kernel_rfl) (by assumption) ?_
        try simp only [Act.put, List.setIfInBounds_toArray, List.set_cons_zero, List.set_cons_succ]
        refine regC 5 rfl (by kernel_rfl) (by rfl) (fun Kq hKq => ?_)
        go_simp
        (with_reducible refine (CV _).mono ?_)
        rintro e w2 ⟨rfl, hb2⟩; have hT := hD.step hb2
        try go_wp2_with fail
        refine hKq.out _ _ (⟨hT.cell 1 rfl 0, hT.cell 1 rfl 1, kept hb2 r0, kept hb2 r1, kept hb2 r2⟩) (fun hHeld => ?_)
        clear hKq Kq
        (try simp only [Act.put, List.setIfInBounds_toArray, List.set_cons_zero, List.set_cons_succ])
        first | (refine regW 6 (v := ?_) rfl (by rfl) (by kernel_rfl) (fun _ _ _ h => h) ?_ (by assumption) ?_; rotate_left; focus (intro w9 hSw; (try dsimp only at hSw); go_simp; (try with_reducible rfl); done)) | refine regU 6 rfl (by rfl) (by kernel_rfl) (fun _ _ _ h => h) (by assumption) ?_ | refine regN 6 rfl (by rfl) (by kernel_rfl) (by assumption) ?_
        try simp only [Act.put, List.setIfInBounds_toArray, List.set_cons_zero, List.set_cons_succ]
        refine wpAnyH_done (by kernel_rfl) ?_ _
        clear hHeld CV r0 r1 r2 hS hD
        go_wp2
        go_roundw
        case rel => exact ⟨k + 1, by omega, by go_num, HN.out, hT⟩
        case measure => simp [intOf]; omega
    · obtain rfl : k = args.length := by omega
      rw [List.take_length] at hall
      clear hk hlt
      have ES := Lib.hid (show startB t l args = true by unfold startB; rw [EY.out, HG.out, argsB_all HP.out hall]; rfl)
      obtain rfl : X = ⟨[⟨0, 0, locsOf y args, []⟩], [], 0, [], 0, 0, zValue, 0⟩ := by rw [← HX.out]; unfold startV; rw [if_pos ES.out, EY.out]
      obtain ⟨y', hy', ey', k1, k2, k3, k4⟩ := start_fit ES.out
      obtain rfl : y' = y := by rw [← ey', EY.out]
      obtain ⟨N, hN⟩ : ∃ N : Nat, y'.locals = N := ⟨y'.locals.toNat, by omega⟩
      have HL := Lib.hid (show locsOf y' args = args ++ List.replicate (N - args.length) zValue by unfold locsOf; rw [hN]; rfl)
      have hNa : args.length ≤ N := by omega
      have hN12 : N ≤ 12 := by omega
      have p1 := kept hS.bel q1
      rw [hN] at p1
      have x1 := hS.cell 1 rfl
      clear hy' ey' k1 k2 k3 k4 hall hN
      go_wp2_with (refine Knd.wp_made kValue rfl _ _ _ rfl N rfl rfl 41 Tryz.underlying78 (.agg #[.int .i64 0, .int .i64 0, .string (⟨#[]⟩ : ByteArray)]) 32 infoValue rfl (by decide) (by omega) zValue zValue_O (by omega) ?_; rintro g w1 hg ho hb hz; have HG := Lib.hid hg; clear hg)
      have h1 := ho.own
      rw [rep_flat, List.append_nil] at h1
      have hS1 := hS.new (r := Res.own kValue 41 (.slice (some ⟨g, 0, none⟩) N N) (List.replicate N zValue) [g]) hb h1 (by simp [Res.own]) (by simp [Res.own]; rw [HG.out]; exact Nat.le_refl _)
      clear h1 ho hb x1 p1 hS
      obtain ⟨g2, hg2⟩ : ∃ g2, w1.heap.size = g2 := ⟨_, rfl⟩
      have hS := hS1.madeAt (.cells #[.int .i64 0, .int .i64 0, .slice (some ⟨g, 0, none⟩) N N, .slice none 0 0] 107 (0, 0)) g2 hg2
      rw [hg2]
      go_loopw [8] (fun i wx => ∃ k : Nat, k ≤ args.length ∧ i = .int .i64 k ∧ St w [Res.box g2 (.cells #[.int .i64 0, .int .i64 0, .slice (some ⟨g, 0, none⟩) N N, .slice none 0 0] 107 (0, 0)), Res.own kValue 41 (.slice (some ⟨g, 0, none⟩) N N) (args.take k ++ List.replicate (N - k) zValue) [g], Res.box (w.heap.size + 1) (.cells #[.slice none 0 0, .slice none 0 0, .int .i64 0, .slice none 0 0, .int .i64 0, .int .i64 0, .int .i64 0, .int .i64 0, .string (⟨#[]⟩ : ByteArray), .int .i64 0] 43 (0, 0)), Res.box w.heap.size (.cells #[.slice A t.length c, .slice (some adB) l.length d] 37 (0, 0))] wx) (fun i _ => args.length - (intOf i).toNat)
      case atStart => exact ⟨0, by omega, rfl, by rw [List.take_zero, List.nil_append, Nat.sub_zero]; exact hS⟩
      case round =>
        clear hS hS1 hz hg2
        obtain ⟨k, hk, rfl, hS⟩ := hrel
        by_cases hlt : k < args.length
        · obtain ⟨x, hx⟩ := get_exU args k hlt
          have hD := hS.drew
          obtain ⟨ad, rfl, r0, r1, r2⟩ := kValue_at (hr.below hD.bel) k x hx
          have HP2 := Lib.hid (part_set2 args zValue x k N hx hNa)
          have hle : k < (args.take k ++ List.replicate (N - k) zValue).length := by rw [List.length_append, List.length_take, List.length_replicate]; omega
          have hlen : (args.take k ++ List.replicate (N - k) zValue).length = N := by rw [List.length_append, List.length_take, List.length_replicate]; omega
          obtain ⟨hc, hf⟩ := St.cellK hS 1 rfl
          rw [hlen] at hc
          have hc3 : ∀ j, j < N * 3 → ∃ u, wr.cell? ⟨g, j, none⟩ = some u := hc
          obtain ⟨u0, s0⟩ := hc3 (k * 3) (by omega)
          obtain ⟨u1, s1⟩ := hc3 (k * 3 + 1) (by omega)
          obtain ⟨u2, s2⟩ := hc3 (k * 3 + 2) (by omega)
          have f0 := hf (k * 3)
          have f1 := hf (k * 3 + 1)
          have f2 := hf (k * 3 + 2)
          have HK := Lib.hid (hS.putK valO 1 rfl k hle [.int .i64 x.k, .int .i64 x.n, .string x.s] x (kValue_Oi.2 ⟨rfl, rfl⟩)).drew
          have HR := Lib.hid (kValue_at (hr.below HK.out.bel) k x hx)
          have hkN : k < N := by omega
          clear hc hc3 hf hlen hle hx
          go_wp2
          refine wp_region_held_drew (S := (fun w' => w'.cell? ⟨g2, 2, none⟩ = some (.slice (some ⟨g, 0, none⟩) N N) ∧ w'.cell? (ad.add (k * 3)) = some (.int .i64 x.k) ∧ w'.cell? ⟨(ad.add (k * 3)).block, (ad.add (k * 3)).off + 1, none⟩ = some (.int .i64 x.n) ∧ w'.cell? ⟨(ad.add (k * 3)).block, (ad.add (k * 3)).off + 2, none⟩ = some (.string x.s))) (by kernel_rfl) (⟨hD.cell 0 rfl 2, r0, r1, r2⟩) (fun hHeld => ?_)
          first | (refine regW 0 (v := ?_) rfl (by rfl) (by kernel_rfl) (fun _ _ _ h => h) ?_ (by assumption) ?_; rotate_left; focus (intro w9 hSw; (try dsimp only at hSw); go_simp; (try with_reducible rfl); done)) | refine regU 0 rfl (by rfl) (by kernel_rfl) (fun _ _ _ h => h) (by assumption) ?_ | refine regN 0 rfl (by rfl) (by kernel_rfl) (by assumption) ?_
          try simp only [Act.put, List.setIfInBounds_toArray, List.set_cons_zero, List.set_cons_succ]
          first | (refine regW 1 (v := ?_) rfl (by rfl) (by kernel_rfl) (fun _ _ _ h => h) ?_ (by assumption) ?_; rotate_left; focus (intro w9 hSw; (try dsimp only at hSw); go_simp; (try with_reducible rfl); done)) | refine regU 1 rfl (by rfl) (by kernel_rfl) (fun _ _ _ h => h) (by assumption) ?_ | refine regN 1 rfl (by rfl) (by kernel_rfl) (by assumption) ?_
          try simp only [Act.put, List.setIfInBounds_toArray, List.set_cons_zero, List.set_cons_succ]
          first | (refine regW 2 (v := ?_) rfl (by rfl) (by kernel_rfl) (fun _ _ _ h => h) ?_ (by assumption) ?_; rotate_left; focus (intro w9 hSw; (try dsimp only at hSw); go_simp; (try with_reducible rfl); done)) | refine regU 2 rfl (by rfl) (by kernel_rfl) (fun _ _ _ h => h) (by assumption) ?_ | refine regN 2 rfl (by rfl) (by kernel_rfl) (by assumption) ?_
          try simp only [Act.put, List.setIfInBounds_toArray, List.set_cons_zero, List.set_cons_succ]
          first | (refine regW 3 (v := ?_) rfl (by rfl) (by kernel_rfl) (fun _ _ _ h => h) ?_ (by assumption) ?_; rotate_left; focus (intro w9 hSw; (try dsimp only at hSw); go_simp; (try with_reducible rfl); done)) | refine regU 3 rfl (by rfl) (by kernel_rfl) (fun _ _ _ h => h) (by assumption) ?_ | refine regN 3 rfl (by rfl) (by kernel_rfl) (by assumption) ?_
          try simp only [Act.put, List.setIfInBounds_toArray, List.set_cons_zero, List.set_cons_succ]
          first | (refine regW 4 (v := ?_) rfl (by rfl) (by kernel_rfl) (fun _ _ _ h => h) ?_ (by assumption) ?_; rotate_left; focus (intro w9 hSw; (try dsimp only at hSw); go_simp; (try with_reducible rfl); done)) | refine regU 4 rfl (by rfl) (by kernel_rfl) (fun _ _ _ h => h) (by assumption) ?_ | refine regN 4 rfl (by rfl) (by kernel_rfl) (by assumption) ?_
          try simp only [Act.put, List.setIfInBounds_toArray, List.set_cons_zero, List.set_cons_succ]
          first | (refine regW 5 (v := ?_) rfl (by rfl) (by kernel_rfl) (fun _ _ _ h => h) ?_ (by assumption) ?_; rotate_left; focus (intro w9 hSw; (try dsimp only at hSw); go_simp; (try with_reducible rfl); done)) | refine regU 5 rfl (by rfl) (by kernel_rfl) (fun _ _ _ h => h) (by assumption) ?_ | refine regN 5 rfl (by rfl) (by kernel_rfl) (by assumption) ?_
          try simp only [Act.put, List.setIfInBounds_toArray, List.set_cons_zero, List.set_cons_succ]
          first | (refine regW 6 (v := ?_) rfl (by rfl) (by kernel_rfl) (fun _ _ _ h => h) ?_ (by assumption) ?_; rotate_left; focus (intro w9 hSw; (try dsimp only at hSw); go_simp; (try with_reducible rfl); done)) | refine regU 6 rfl (by rfl) (by kernel_rfl) (fun _ _ _ h => h) (by assumption) ?_ | refine regN 6 rfl (by rfl) (by kernel_rfl) (by assumption) ?_
          try simp only [Act.put, List.setIfInBounds_toArray, List.set_cons_zero, List.set_cons_succ]
          first | (refine regW 7 (v := ?_) rfl (by rfl) (by kernel_rfl) (fun _ _ _ h => h) ?_ (by assumption) ?_; rotate_left; focus (intro w9 hSw; (try dsimp only at hSw); go_simp; (try with_reducible rfl); done)) | refine regU 7 rfl (by rfl) (by kernel_rfl) (fun _ _ _ h => h) (by assumption) ?_ | refine regN 7 rfl (by rfl) (by kernel_rfl) (by assumption) ?_
          try simp only [Act.put, List.setIfInBounds_toArray, List.set_cons_zero, List.set_cons_succ]
          refine regC 8 rfl (by kernel_rfl) (by rfl) (fun Kq hKq => ?_)
          go_simp
          refine hKq.out _ _ ((by obtain ⟨ad', e', t0, t1, t2⟩ := HR.out; cases e'; exact ⟨HK.out.cell 0 rfl 2, t0, t1, t2⟩)) (fun hHeld => ?_)
          clear hKq Kq
          (try simp only [Act.put, List.setIfInBounds_toArray, List.set_cons_zero, List.set_cons_succ])
          refine wpAnyH_done (by kernel_rfl) ?_ _
          clear hHeld
          go_wp2
          go_roundw
          case rel => exact ⟨k + 1, by omega, by go_num, by have h9 := HK.out; rw [HP2.out] at h9; exact h9⟩
          case measure => simp [intOf]; omega
        · obtain rfl : k = args.length := by omega
          rw [List.take_length, ← HL.out] at hS
          have x0 := hS.cell 0 rfl
          have hS9 := ((hS.front 1 rfl).asF 0 rfl (r' := Res.agg kFrame ⟨0, 0, locsOf y' args, []⟩ (#[.int .i64 0, .int .i64 0, .slice (some ⟨g, 0, none⟩) N N, .slice none 0 0] : Array Value).toList [g]) (kFrame_Oi.2 ⟨_, .slice none 0 0, [g], [], rfl, by simp, hS.get 1 rfl, Knd.Own.nil _ _ _⟩) rfl).one 107
          clear hS
          have hS := hS9
          clear hS9
          have x2 := hS.cell 2 rfl
          have f2 := hS.free 2 rfl
          go_wp2
          have hS2 := ((((((((((hS.set 2 rfl 0 (.slice (some ⟨wr.heap.size, 0, none⟩) 1 1)).set 2 rfl 1 (.slice none 0 0)).set 2 rfl 2 (.int .i64 0)).set 2 rfl 3 (.slice none 0 0)).set 2 rfl 4 (.int .i64 0)).set 2 rfl 5 (.int .i64 0)).set 2 rfl 6 (.int .i64 0)).set 2 rfl 7 (.int .i64 0)).set 2 rfl 8 (.string (⟨#[]⟩ : ByteArray))).set 2 rfl 9 (.int .i64 0))
          have y0 := hS2.cell 2 rfl 0
          have y1 := hS2.cell 2 rfl 1
          have y2 := hS2.cell 2 rfl 2
          have y3 := hS2.cell 2 rfl 3
          have y4 := hS2.cell 2 rfl 4
          have y5 := hS2.cell 2 rfl 5
          have y6 := hS2.cell 2 rfl 6
          have y7 := hS2.cell 2 rfl 7
          have y8 := hS2.cell 2 rfl 8
          have y9 := hS2.cell 2 rfl 9
          refine bodyPost_ret (v := .tuple #[.agg #[.slice (some ⟨wr.heap.size, 0, none⟩) 1 1, .slice none 0 0, .int .i64 0, .slice none 0 0, .int .i64 0, .int .i64 0, .int .i64 0, .int .i64 0, .string (⟨#[]⟩ : ByteArray), .int .i64 0], .bool true]) (by simp [results, Tryz.results115, go_sem, *]) rfl ?_
          exact ⟨_, _, _, by rw [ES.out]; rfl, _, [], [], ((((hS2.only 0 rfl).nil_ Knd.str 9).nil_ kRec 110).perm (List.perm_append_comm (l₁ := [_, _]) (l₂ := [_])))⟩
end Go.Proofs.YticlknijmnddeaaGreat.Dat
