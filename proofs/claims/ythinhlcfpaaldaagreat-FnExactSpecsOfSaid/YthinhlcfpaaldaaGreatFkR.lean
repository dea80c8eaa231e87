/- The reference's look at one op. -/
import Derived.Test.YthinhlcfpaaldaaGreatFkQ
namespace Go.Proofs.YthinhlcfpaaldaaGreat.Dat
open Go Go.RowKit Go.Proofs.YthinhlcfpaaldaaGreat.Mem
set_option linter.unusedVariables false
set_option linter.unusedSimpArgs false
set_option maxHeartbeats 8000000 in
set_option maxRecDepth 100000 in
theorem op10 {w0 W : World} {L : List Res} (A B A4 A5 : Option Addr) (c0 d0 c4 c5 : Nat) (t : List ByteArray) (l : List DFunc) (c : DFast) (hS0 : St w0 L W) (i : Nat) {g : Nat} {b : Bool} (hi : L[i]? = some (kbox A B A4 A5 c0 d0 c4 c5 t l c g b)) (k : Nat) (op od oa ob ox of_ op_ vk vn : Int) (vs : ByteArray) (hl12 : l.length ≤ 12) (h : HasMod A B t l w0) (h1 : 0 ≤ c.vals) (h2 : c.vals ≤ 400) (h3 : 0 ≤ c.nums) (h4 : c.nums ≤ 400) (h5 : c.ops.length ≤ 1500) (h6 : c.exits.length ≤ 1500)
    (r4 : kFOp.Row w0 A4 c.ops.length c.ops) (ho : c.ops[k]? = some ⟨op, od, oa, ob, ox, of_, op_, ⟨vk, vn, vs⟩⟩) (hs : vs.size ≤ maxLen) :
    Calls Tryz.prog 210 #[.pointer (some ⟨g, 0, none⟩), .int .i64 k] W fun e w' => e = .returned (.tuple #[]) ∧ St w0 (L.set i (kbox A B A4 A5 c0 d0 c4 c5 t l c g (b || !(opB l c k ⟨op, od, oa, ob, ox, of_, op_, ⟨vk, vn, vs⟩⟩)))) w' := by
  have hil : i < L.length := (List.getElem?_eq_some_iff.1 hi).1
  have hk : k < c.ops.length := (List.getElem?_eq_some_iff.1 ho).1
  obtain ⟨ad, rfl, q0, q1, q2, q3, q4, q5, q6, q7, q8, q9⟩ := kFOp_at (r4.below hS0.bel) k _ ho
  have x_k0 := hS0.cell i hi
  have e0 : L.set i (kbox A B (some ad) A5 c0 d0 c4 c5 t l c g b) = L := by
    obtain ⟨_, e⟩ := List.getElem?_eq_some_iff.1 hi
    rw [← e, List.set_getElem_self]
  have hS : St w0 (Res.box W.heap.size (.cells #[.int .i64 op, .int .i64 od, .int .i64 oa, .int .i64 ob, .int .i64 ox, .int .i64 of_, .int .i64 op_, .int .i64 vk, .int .i64 vn, .string vs] 164 (0, 0)) :: L.set i (kbox A B (some ad) A5 c0 d0 c4 c5 t l c g b)) (W.alloc (.cells #[.int .i64 op, .int .i64 od, .int .i64 oa, .int .i64 ob, .int .i64 ox, .int .i64 of_, .int .i64 op_, .int .i64 vk, .int .i64 vn, .string vs] 164 (0, 0))).drew := by
    rw [e0]
    exact (hS0.made _).drew
  have hK := kfactsX hil hS
  clear e0
  have eq1 : IntKind.i64.wrap ((l.length : Int) - 1) = (l.length : Int) - 1 := IntWalk.i64_in _ (by omega)
  cases hf : btw of_ 0 ((l.length : Int) - 1)
  · have E := Lib.hid (show opB l c k ⟨op, od, oa, ob, ox, of_, op_, ⟨vk, vn, vs⟩⟩ = false by
      unfold opB
      split
      · rfl
      · unfold opS
        rw [show (insO l of_ op_).isSome = false by unfold insO; rw [hf]; rfl]
        simp)
    have HF := Lib.hid hf
    have HS := Lib.hid (badX hil hS)
    clear hf
    go_enter Tryz.func210, Tryz.ntmps210
    go_wp2
    refine wp_region_held_drew (S := (fun w' => w'.cell? ⟨W.heap.size, 5, none⟩ = some (.int .i64 of_) ∧ w'.cell? ⟨W.heap.size, 6, none⟩ = some (.int .i64 op_) ∧ w'.cell? ⟨g, 1, none⟩ = some (.slice B l.length d0))) (by kernel_rfl) (⟨hS.cell 0 rfl 5, hS.cell 0 rfl 6, hK.1 1⟩) (fun hHeld => ?_)
    (iterate 9 (first | refine rQ1 ?_ | refine rQ2 ?_); try simp only [pP])
    refine regC 9 rfl (by kernel_rfl) (by rfl) (fun Kq hKq => ?_)
    go_simp
    (with_reducible refine (between _ HF.out).mono ?_)
    rintro e w3 ⟨rfl, rfl⟩
    try go_wp2_with fail
    refine hKq.out _ _ (⟨hS.cell 0 rfl 5, hS.cell 0 rfl 6, hK.1 1⟩) (fun hHeld => ?_)
    clear hKq Kq
    (try simp only [pP])
    (iterate 2 (first | refine rQ1 ?_ | refine rQ2 ?_); try simp only [pP])
    refine regS (fun _ _ _ d h => by cases d <;> exact h) [12, 13, 14, 15, 16, 17, 18, 19, 20, 21, 22, 23, 24, 25, 26, 27] _ _ _ rfl (by kernel_rfl) (by assumption) ?_
    simp only [skipL, List.getElem?_cons_zero, List.getElem?_cons_succ, Option.bind_some, pP]
    (first | refine rQ1 ?_ | refine rQ2 ?_); (try simp only [pP])
    refine wpAnyH_done (by kernel_rfl) ?_ _
    clear hHeld
    obtain ⟨x_k, f_k, z_k⟩ := hK
    go_wp2
    refine bodyPost_ret (results_none rfl _ _ _) rfl ?_
    refine ⟨rfl, ?_⟩
    rw [E.out, Bool.not_false, Bool.or_true]
    exact HS.out
  have hf2 := btw_true.1 hf
  obtain ⟨fk, rfl⟩ : ∃ fk : Nat, of_ = fk := ⟨of_.toNat, by omega⟩
  obtain ⟨y, hy⟩ := get_exU l fk (by omega)
  have hyc := (h.hv y (List.mem_of_getElem? hy)).1
  obtain ⟨adf, A9, c9, rfl, v0', v1', v2', _, _⟩ := kFunc_at h.hr fk y hy
  have v2 := kept hS.bel v2'
  have HF := Lib.hid hf
  have f0 : (0 : Int) ≤ (fk : Int) := by omega
  have f1 : (fk : Int) < l.length := by omega
  have f2 : fk < l.length := by omega
  have eq2 : IntKind.i64.wrap ((y.code.length : Int) - 1) = (y.code.length : Int) - 1 := IntWalk.i64_in _ (by omega)
  cases hp : btw op_ 0 ((y.code.length : Int) - 1)
  · have E := Lib.hid (show opB l c k ⟨op, od, oa, ob, ox, (fk : Int), op_, ⟨vk, vn, vs⟩⟩ = false by
      unfold opB
      split
      · rfl
      · unfold opS
        rw [show (insO l (fk : Int) op_).isSome = false by unfold insO; rw [Int.toNat_natCast, getD_some hy, hp, Bool.and_false]; rfl]
        simp)
    have HP := Lib.hid hp
    have HS := Lib.hid (badX hil hS)
    clear hf hp hy v0' v1' v2'
    go_enter Tryz.func210, Tryz.ntmps210
    go_wp2
    refine wp_region_held_drew (S := (fun w' => w'.cell? ⟨W.heap.size, 5, none⟩ = some (.int .i64 (fk : Int)) ∧ w'.cell? ⟨W.heap.size, 6, none⟩ = some (.int .i64 op_) ∧ w'.cell? ⟨g, 1, none⟩ = some (.slice (some adf) l.length d0) ∧ w'.cell? ⟨(adf.add (fk * 3)).block, (adf.add (fk * 3)).off + 2, none⟩ = some (.slice A9 y.code.length c9))) (by kernel_rfl) (⟨hS.cell 0 rfl 5, hS.cell 0 rfl 6, hK.1 1, v2⟩) (fun hHeld => ?_)
    clear v2
    (iterate 9 (first | refine rQ1 ?_ | refine rQ2 ?_); try simp only [pP])
    refine regC 9 rfl (by kernel_rfl) (by rfl) (fun Kq hKq => ?_)
    go_simp
    (with_reducible refine (between _ HF.out).mono ?_)
    rintro e w3 ⟨rfl, rfl⟩
    try go_wp2_with fail
    refine hKq.out _ _ (hHeld) (fun hHeld => ?_)
    clear hKq Kq
    (try simp only [pP])
    (iterate 16 (first | refine rQ1 ?_ | refine rQ2 ?_); try simp only [pP])
    refine regC 26 rfl (by kernel_rfl) (by rfl) (fun Kq hKq => ?_)
    go_simp
    (with_reducible refine (between _ HP.out).mono ?_)
    rintro e w4 ⟨rfl, rfl⟩
    try go_wp2_with fail
    refine hKq.out _ _ (hHeld) (fun hHeld => ?_)
    clear hKq Kq
    (try simp only [pP])
    (iterate 2 (first | refine rQ1 ?_ | refine rQ2 ?_); try simp only [pP])
    refine wpAnyH_done (by kernel_rfl) ?_ _
    clear hHeld
    obtain ⟨x_k, f_k, z_k⟩ := hK
    go_wp2
    refine bodyPost_ret (results_none rfl _ _ _) rfl ?_
    refine ⟨rfl, ?_⟩
    rw [E.out, Bool.not_false, Bool.or_true]
    exact HS.out
  have hI := Lib.hid (show (insO l (fk : Int) op_).isSome = true by unfold insO; rw [hf, Int.toNat_natCast, getD_some hy, hp]; rw [List.getElem?_eq_getElem (by have := btw_true.1 hp; omega)]; rfl)
  have HP := Lib.hid hp
  clear hf hp v0' v1' v2'
  go_enter Tryz.func210, Tryz.ntmps210
  go_wp2
  refine wp_region_held_drew (S := (fun w' => w'.cell? ⟨W.heap.size, 5, none⟩ = some (.int .i64 (fk : Int)) ∧ w'.cell? ⟨W.heap.size, 6, none⟩ = some (.int .i64 op_) ∧ w'.cell? ⟨g, 1, none⟩ = some (.slice (some adf) l.length d0) ∧ w'.cell? ⟨(adf.add (fk * 3)).block, (adf.add (fk * 3)).off + 2, none⟩ = some (.slice A9 y.code.length c9))) (by kernel_rfl) (⟨hS.cell 0 rfl 5, hS.cell 0 rfl 6, hK.1 1, v2⟩) (fun hHeld => ?_)
  clear v2
  (iterate 9 (first | refine rQ1 ?_ | refine rQ2 ?_); try simp only [pP])
  refine regC 9 rfl (by kernel_rfl) (by rfl) (fun Kq hKq => ?_)
  go_simp
  (with_reducible refine (between _ HF.out).mono ?_)
  rintro e w3 ⟨rfl, rfl⟩
  try go_wp2_with fail
  refine hKq.out _ _ (hHeld) (fun hHeld => ?_)
  clear hKq Kq
  (try simp only [pP])
  (iterate 16 (first | refine rQ1 ?_ | refine rQ2 ?_); try simp only [pP])
  refine regC 26 rfl (by kernel_rfl) (by rfl) (fun Kq hKq => ?_)
  go_simp
  (with_reducible refine (between _ HP.out).mono ?_)
  rintro e w4 ⟨rfl, rfl⟩
  try go_wp2_with fail
  refine hKq.out _ _ (hHeld) (fun hHeld => ?_)
  clear hKq Kq
  (try simp only [pP])
  (iterate 2 (first | refine rQ1 ?_ | refine rQ2 ?_); try simp only [pP])
  refine wpAnyH_done (by kernel_rfl) ?_ _
  clear hHeld
  obtain ⟨x_k, f_k, z_k⟩ := hK
  have x_o := hS.cell 0 rfl
  by_cases hb : btw op 1 29 = true
  · have hb2 := btw_true.1 hb
    have h29 : op = 1 ∨ op = 2 ∨ op = 3 ∨ op = 4 ∨ op = 5 ∨ op = 6 ∨ op = 7 ∨ op = 8 ∨ op = 9 ∨ op = 10 ∨ op = 11 ∨ op = 12 ∨ op = 13 ∨ op = 14 ∨ op = 15 ∨ op = 16 ∨ op = 17 ∨ op = 18 ∨ op = 19 ∨ op = 20 ∨ op = 21 ∨ op = 22 ∨ op = 23 ∨ op = 24 ∨ op = 25 ∨ op = 26 ∨ op = 27 ∨ op = 28 ∨ op = 29 := by omega
    clear hb hb2
    rcases h29 with rfl | rfl | rfl | rfl | rfl | rfl | rfl | rfl | rfl | rfl | rfl | rfl | rfl | rfl | rfl | rfl | rfl | rfl | rfl | rfl | rfl | rfl | rfl | rfl | rfl | rfl | rfl | rfl | rfl
    · have E := Lib.hid (show opB l c k ⟨1, od, oa, ob, ox, (fk : Int), op_, ⟨vk, vn, vs⟩⟩ = ((btw od 0 (c.vals - 1) && (decide (oa = 0) && (decide (ob = 0) && valB (l.length : Int) 0 ⟨vk, vn, vs⟩))) && (decide (ox = 0) && (true && true))) by
        show ((btw od 0 (c.vals - 1) && (decide (oa = 0) && (decide (ob = 0) && valB (l.length : Int) 0 ⟨vk, vn, vs⟩))) && (decide (ox = 0) && (true && (insO l (fk : Int) op_).isSome))) = _
        rw [hI.out])
      have HX := Lib.hid (show exB 1 = false from rfl)
      have CV : ∀ W' : World, Calls Tryz.prog 183 #[.agg #[.slice A t.length c0, .slice (some adf) l.length d0], .agg #[.int .i64 vk, .int .i64 vn, .string vs], .int .i64 0] W' (fun e w' => e = .returned (.bool (valB (l.length : Int) 0 ⟨vk, vn, vs⟩)) ∧ Below W'.heap.size W' w') := fun W' => val3 l.length 0 A (some adf) c0 d0 t.length l.length ⟨vk, vn, vs⟩ W' hs (by omega) (by omega) (by omega) (by omega) rfl
      go_wp2_with (first | ((first | (go_at_call 277; (with_reducible refine (zeroX hil hS _).mono ?_)) | (go_at_call 279; (with_reducible refine (valX hil hS _ h1 h2).mono ?_)) | (go_at_call 281; (with_reducible refine (numX hil hS _ h3 h4).mono ?_)) | (go_at_call 276; (with_reducible refine (exitX hil hS _ h6).mono ?_)) | (go_at_call 278; refine (noneX hil hS ⟨vk, vn, vs⟩).mono ?_) | (go_at_call 282; refine (goalX hil hS k _ h5 r4).mono ?_) | (go_at_call 280; (with_reducible refine (needX hil hS _).mono ?_))); rintro e w9 ⟨rfl, hS9⟩; replace hS := hS9; clear hS9 x_k f_k z_k x_o; obtain ⟨x_k, f_k, z_k⟩ := kfactsX hil hS; have x_o := hS.cell 0 rfl) | (go_at_call 275; refine (exits10 1 _).mono ?_; rintro e w' ⟨rfl, rfl⟩; rw [HX.out]))
      have hS2 := hS.drew
      clear x_k f_k z_k x_o
      refine wp_region_held_drew (S := (fun w' => w'.cell? ⟨W.heap.size, 7, none⟩ = some (.int .i64 vk) ∧ w'.cell? ⟨W.heap.size, 8, none⟩ = some (.int .i64 vn) ∧ w'.cell? ⟨W.heap.size, 9, none⟩ = some (.string vs) ∧ w'.cell? ⟨g, 0, none⟩ = some (.slice A t.length c0) ∧ w'.cell? ⟨g, 1, none⟩ = some (.slice (some adf) l.length d0))) (by kernel_rfl) (⟨hS2.cell 0 rfl 7, hS2.cell 0 rfl 8, hS2.cell 0 rfl 9, (kfactsX hil hS2).1 0, (kfactsX hil hS2).1 1⟩) (fun hHeld => ?_)
      (iterate 7 (first | refine rQ1 ?_ | refine rQ2 ?_); try simp only [pP])
      refine regC 7 rfl (by kernel_rfl) (by rfl) (fun Kq hKq => ?_)
      go_simp
      (with_reducible refine (CV _).mono ?_)
      rintro e w2 ⟨rfl, hb2⟩; have hS3 := hS2.step hb2
      try go_wp2_with fail
      refine hKq.out _ _ (⟨hS3.cell 0 rfl 7, hS3.cell 0 rfl 8, hS3.cell 0 rfl 9, (kfactsX hil hS3).1 0, (kfactsX hil hS3).1 1⟩) (fun hHeld => ?_)
      clear hKq Kq
      (try simp only [pP])
      refine regC 8 rfl (by kernel_rfl) (by rfl) (fun Kq hKq => ?_)
      go_simp
      (with_reducible refine (needX hil hS3 _).mono ?_)
      rintro e w9 ⟨rfl, hS9⟩
      try go_wp2_with fail
      refine hKq.out _ _ (⟨hS9.cell 0 rfl 7, hS9.cell 0 rfl 8, hS9.cell 0 rfl 9, (kfactsX hil hS9).1 0, (kfactsX hil hS9).1 1⟩) (fun hHeld => ?_)
      clear hKq Kq
      (try simp only [pP])
      refine wpAnyH_done (by kernel_rfl) ?_ _
      clear hHeld
      go_wp2
      go_end0
      refine ⟨rfl, finX hS9.drop ?_⟩
      rw [E.out]
      have key : ∀ b x p q r v : Bool, (((((b || !x) || !p) || !q) || !r) || !v) = (b || !((p && (q && (r && v))) && (x && (true && true)))) := by decide
      exact key _ _ _ _ _ _
    · have E := Lib.hid (show opB l c k ⟨2, od, oa, ob, ox, (fk : Int), op_, ⟨vk, vn, vs⟩⟩ = ((btw od 0 (c.vals - 1) && (btw oa 0 (c.vals - 1) && (decide (ob = 0) && nilV ⟨vk, vn, vs⟩))) && (decide (ox = 0) && (true && true))) by
        show ((btw od 0 (c.vals - 1) && (btw oa 0 (c.vals - 1) && (decide (ob = 0) && nilV ⟨vk, vn, vs⟩))) && (decide (ox = 0) && (true && (insO l (fk : Int) op_).isSome))) = _
        rw [hI.out])
      have HX := Lib.hid (show exB 2 = false from rfl)
      go_wp2_with (first | ((first | (go_at_call 277; (with_reducible refine (zeroX hil hS _).mono ?_)) | (go_at_call 279; (with_reducible refine (valX hil hS _ h1 h2).mono ?_)) | (go_at_call 281; (with_reducible refine (numX hil hS _ h3 h4).mono ?_)) | (go_at_call 276; (with_reducible refine (exitX hil hS _ h6).mono ?_)) | (go_at_call 278; refine (noneX hil hS ⟨vk, vn, vs⟩).mono ?_) | (go_at_call 282; refine (goalX hil hS k _ h5 r4).mono ?_) | (go_at_call 280; (with_reducible refine (needX hil hS _).mono ?_))); rintro e w9 ⟨rfl, hS9⟩; replace hS := hS9; clear hS9 x_k f_k z_k x_o; obtain ⟨x_k, f_k, z_k⟩ := kfactsX hil hS; have x_o := hS.cell 0 rfl) | (go_at_call 275; refine (exits10 2 _).mono ?_; rintro e w' ⟨rfl, rfl⟩; rw [HX.out]))
      go_end0
      refine ⟨rfl, finX hS.drop ?_⟩
      rw [E.out]
      have key : ∀ b x n p q r : Bool, (((((b || !x) || !n) || !p) || !q) || !r) = (b || !((p && (q && (r && n))) && (x && (true && true)))) := by decide
      exact key _ _ _ _ _ _
    · have E := Lib.hid (show opB l c k ⟨3, od, oa, ob, ox, (fk : Int), op_, ⟨vk, vn, vs⟩⟩ = ((btw od 0 (c.nums - 1) && (decide (oa = 0) && (decide (ob = 0) && (decide (vk = 1) && valB (l.length : Int) 0 ⟨vk, vn, vs⟩)))) && (decide (ox = 0) && (true && true))) by
        show ((btw od 0 (c.nums - 1) && (decide (oa = 0) && (decide (ob = 0) && (decide (vk = 1) && valB (l.length : Int) 0 ⟨vk, vn, vs⟩)))) && (decide (ox = 0) && (true && (insO l (fk : Int) op_).isSome))) = _
        rw [hI.out])
      have HX := Lib.hid (show exB 3 = false from rfl)
      by_cases hv : vk = 1
      · subst hv
        have CV : ∀ W' : World, Calls Tryz.prog 183 #[.agg #[.slice A t.length c0, .slice (some adf) l.length d0], .agg #[.int .i64 1, .int .i64 vn, .string vs], .int .i64 0] W' (fun e w' => e = .returned (.bool (valB (l.length : Int) 0 ⟨1, vn, vs⟩)) ∧ Below W'.heap.size W' w') := fun W' => val3 l.length 0 A (some adf) c0 d0 t.length l.length ⟨1, vn, vs⟩ W' hs (by omega) (by omega) (by omega) (by omega) rfl
        go_wp2_with (first | ((first | (go_at_call 277; (with_reducible refine (zeroX hil hS _).mono ?_)) | (go_at_call 279; (with_reducible refine (valX hil hS _ h1 h2).mono ?_)) | (go_at_call 281; (with_reducible refine (numX hil hS _ h3 h4).mono ?_)) | (go_at_call 276; (with_reducible refine (exitX hil hS _ h6).mono ?_)) | (go_at_call 278; refine (noneX hil hS ⟨1, vn, vs⟩).mono ?_) | (go_at_call 282; refine (goalX hil hS k _ h5 r4).mono ?_) | (go_at_call 280; (with_reducible refine (needX hil hS _).mono ?_))); rintro e w9 ⟨rfl, hS9⟩; replace hS := hS9; clear hS9 x_k f_k z_k x_o; obtain ⟨x_k, f_k, z_k⟩ := kfactsX hil hS; have x_o := hS.cell 0 rfl) | (go_at_call 275; refine (exits10 3 _).mono ?_; rintro e w' ⟨rfl, rfl⟩; rw [HX.out]))
        have hS2 := hS.drew
        clear x_k f_k z_k x_o
        refine wp_region_held_drew (S := (fun w' => w'.cell? ⟨W.heap.size, 7, none⟩ = some (.int .i64 (1 : Int)) ∧ w'.cell? ⟨W.heap.size, 8, none⟩ = some (.int .i64 vn) ∧ w'.cell? ⟨W.heap.size, 9, none⟩ = some (.string vs) ∧ w'.cell? ⟨g, 0, none⟩ = some (.slice A t.length c0) ∧ w'.cell? ⟨g, 1, none⟩ = some (.slice (some adf) l.length d0))) (by kernel_rfl) (⟨hS2.cell 0 rfl 7, hS2.cell 0 rfl 8, hS2.cell 0 rfl 9, (kfactsX hil hS2).1 0, (kfactsX hil hS2).1 1⟩) (fun hHeld => ?_)
        (iterate 12 (first | refine rQ1 ?_ | refine rQ2 ?_); try simp only [pP])
        refine regC 12 rfl (by kernel_rfl) (by rfl) (fun Kq hKq => ?_)
        go_simp
        (with_reducible refine (CV _).mono ?_)
        rintro e w2 ⟨rfl, hb2⟩; have hS3 := hS2.step hb2
        try go_wp2_with fail
        refine hKq.out _ _ (⟨hS3.cell 0 rfl 7, hS3.cell 0 rfl 8, hS3.cell 0 rfl 9, (kfactsX hil hS3).1 0, (kfactsX hil hS3).1 1⟩) (fun hHeld => ?_)
        clear hKq Kq
        (try simp only [pP])
        (first | refine rQ1 ?_ | refine rQ2 ?_); (try simp only [pP])
        refine regC 14 rfl (by kernel_rfl) (by rfl) (fun Kq hKq => ?_)
        go_simp
        (with_reducible refine (needX hil hS3 _).mono ?_)
        rintro e w9 ⟨rfl, hS9⟩
        try go_wp2_with fail
        refine hKq.out _ _ (⟨hS9.cell 0 rfl 7, hS9.cell 0 rfl 8, hS9.cell 0 rfl 9, (kfactsX hil hS9).1 0, (kfactsX hil hS9).1 1⟩) (fun hHeld => ?_)
        clear hKq Kq
        (try simp only [pP])
        refine wpAnyH_done (by kernel_rfl) ?_ _
        clear hHeld
        go_wp2
        go_end0
        refine ⟨rfl, finX hS9.drop ?_⟩
        rw [E.out]
        have key : ∀ b x p q r v : Bool, (((((b || !x) || !p) || !q) || !r) || !v) = (b || !((p && (q && (r && v))) && (x && (true && true)))) := by decide
        exact key _ _ _ _ _ _
      · have hv2 : (vk == 1) = false := by simp [hv]
        have HD := Lib.hid (show decide (vk = 1) = false from decide_eq_false hv)
        clear hv
        go_wp2_with (first | ((first | (go_at_call 277; (with_reducible refine (zeroX hil hS _).mono ?_)) | (go_at_call 279; (with_reducible refine (valX hil hS _ h1 h2).mono ?_)) | (go_at_call 281; (with_reducible refine (numX hil hS _ h3 h4).mono ?_)) | (go_at_call 276; (with_reducible refine (exitX hil hS _ h6).mono ?_)) | (go_at_call 278; refine (noneX hil hS ⟨vk, vn, vs⟩).mono ?_) | (go_at_call 282; refine (goalX hil hS k _ h5 r4).mono ?_) | (go_at_call 280; (with_reducible refine (needX hil hS _).mono ?_))); rintro e w9 ⟨rfl, hS9⟩; replace hS := hS9; clear hS9 x_k f_k z_k x_o; obtain ⟨x_k, f_k, z_k⟩ := kfactsX hil hS; have x_o := hS.cell 0 rfl) | (go_at_call 275; refine (exits10 3 _).mono ?_; rintro e w' ⟨rfl, rfl⟩; rw [HX.out]))
        have hS2 := hS.drew
        clear x_k f_k z_k x_o
        refine wp_region_held_drew (S := (fun w' => w'.cell? ⟨W.heap.size, 7, none⟩ = some (.int .i64 vk) ∧ w'.cell? ⟨W.heap.size, 8, none⟩ = some (.int .i64 vn) ∧ w'.cell? ⟨W.heap.size, 9, none⟩ = some (.string vs) ∧ w'.cell? ⟨g, 0, none⟩ = some (.slice A t.length c0) ∧ w'.cell? ⟨g, 1, none⟩ = some (.slice (some adf) l.length d0))) (by kernel_rfl) (⟨hS2.cell 0 rfl 7, hS2.cell 0 rfl 8, hS2.cell 0 rfl 9, (kfactsX hil hS2).1 0, (kfactsX hil hS2).1 1⟩) (fun hHeld => ?_)
        (iterate 14 (first | refine rQ1 ?_ | refine rQ2 ?_); try simp only [pP])
        refine regC 14 rfl (by kernel_rfl) (by rfl) (fun Kq hKq => ?_)
        go_simp
        (with_reducible refine (needX hil hS2 _).mono ?_)
        rintro e w9 ⟨rfl, hS9⟩
        try go_wp2_with fail
        refine hKq.out _ _ (⟨hS9.cell 0 rfl 7, hS9.cell 0 rfl 8, hS9.cell 0 rfl 9, (kfactsX hil hS9).1 0, (kfactsX hil hS9).1 1⟩) (fun hHeld => ?_)
        clear hKq Kq
        (try simp only [pP])
        refine wpAnyH_done (by kernel_rfl) ?_ _
        clear hHeld
        go_wp2
        go_end0
        refine ⟨rfl, finX hS9.drop ?_⟩
        rw [E.out]
        rw [HD.out, Bool.false_and]
        have key : ∀ b x p q r v : Bool, (((((b || !x) || !p) || !q) || !r) || !v) = (b || !((p && (q && (r && v))) && (x && (true && true)))) := by decide
        exact key _ _ _ _ _ _
    · have E := Lib.hid (show opB l c k ⟨4, od, oa, ob, ox, (fk : Int), op_, ⟨vk, vn, vs⟩⟩ = ((btw od 0 (c.nums - 1) && (btw oa 0 (c.nums - 1) && (decide (ob = 0) && nilV ⟨vk, vn, vs⟩))) && (decide (ox = 0) && (true && true))) by
        show ((btw od 0 (c.nums - 1) && (btw oa 0 (c.nums - 1) && (decide (ob = 0) && nilV ⟨vk, vn, vs⟩))) && (decide (ox = 0) && (true && (insO l (fk : Int) op_).isSome))) = _
        rw [hI.out])
      have HX := Lib.hid (show exB 4 = false from rfl)
      go_wp2_with (first | ((first | (go_at_call 277; (with_reducible refine (zeroX hil hS _).mono ?_)) | (go_at_call 279; (with_reducible refine (valX hil hS _ h1 h2).mono ?_)) | (go_at_call 281; (with_reducible refine (numX hil hS _ h3 h4).mono ?_)) | (go_at_call 276; (with_reducible refine (exitX hil hS _ h6).mono ?_)) | (go_at_call 278; refine (noneX hil hS ⟨vk, vn, vs⟩).mono ?_) | (go_at_call 282; refine (goalX hil hS k _ h5 r4).mono ?_) | (go_at_call 280; (with_reducible refine (needX hil hS _).mono ?_))); rintro e w9 ⟨rfl, hS9⟩; replace hS := hS9; clear hS9 x_k f_k z_k x_o; obtain ⟨x_k, f_k, z_k⟩ := kfactsX hil hS; have x_o := hS.cell 0 rfl) | (go_at_call 275; refine (exits10 4 _).mono ?_; rintro e w' ⟨rfl, rfl⟩; rw [HX.out]))
      go_end0
      refine ⟨rfl, finX hS.drop ?_⟩
      rw [E.out]
      have key : ∀ b x n p q r : Bool, (((((b || !x) || !n) || !p) || !q) || !r) = (b || !((p && (q && (r && n))) && (x && (true && true)))) := by decide
      exact key _ _ _ _ _ _
    · have E := Lib.hid (show opB l c k ⟨5, od, oa, ob, ox, (fk : Int), op_, ⟨vk, vn, vs⟩⟩ = ((btw od 0 (c.nums - 1) && (btw oa 0 (c.vals - 1) && (decide (ob = 0) && nilV ⟨vk, vn, vs⟩))) && (btw ox 0 ((c.exits.length : Int) - 1) && (true && true))) by
        show ((btw od 0 (c.nums - 1) && (btw oa 0 (c.vals - 1) && (decide (ob = 0) && nilV ⟨vk, vn, vs⟩))) && (btw ox 0 ((c.exits.length : Int) - 1) && (true && (insO l (fk : Int) op_).isSome))) = _
        rw [hI.out])
      have HX := Lib.hid (show exB 5 = true from rfl)
      go_wp2_with (first | ((first | (go_at_call 277; (with_reducible refine (zeroX hil hS _).mono ?_)) | (go_at_call 279; (with_reducible refine (valX hil hS _ h1 h2).mono ?_)) | (go_at_call 281; (with_reducible refine (numX hil hS _ h3 h4).mono ?_)) | (go_at_call 276; (with_reducible refine (exitX hil hS _ h6).mono ?_)) | (go_at_call 278; refine (noneX hil hS ⟨vk, vn, vs⟩).mono ?_) | (go_at_call 282; refine (goalX hil hS k _ h5 r4).mono ?_) | (go_at_call 280; (with_reducible refine (needX hil hS _).mono ?_))); rintro e w9 ⟨rfl, hS9⟩; replace hS := hS9; clear hS9 x_k f_k z_k x_o; obtain ⟨x_k, f_k, z_k⟩ := kfactsX hil hS; have x_o := hS.cell 0 rfl) | (go_at_call 275; refine (exits10 5 _).mono ?_; rintro e w' ⟨rfl, rfl⟩; rw [HX.out]))
      go_end0
      refine ⟨rfl, finX hS.drop ?_⟩
      rw [E.out]
      have key : ∀ b x n p q r : Bool, (((((b || !x) || !n) || !p) || !q) || !r) = (b || !((p && (q && (r && n))) && (x && (true && true)))) := by decide
      exact key _ _ _ _ _ _
    · have E := Lib.hid (show opB l c k ⟨6, od, oa, ob, ox, (fk : Int), op_, ⟨vk, vn, vs⟩⟩ = ((btw od 0 (c.vals - 1) && (btw oa 0 (c.nums - 1) && (decide (ob = 0) && nilV ⟨vk, vn, vs⟩))) && (decide (ox = 0) && (true && true))) by
        show ((btw od 0 (c.vals - 1) && (btw oa 0 (c.nums - 1) && (decide (ob = 0) && nilV ⟨vk, vn, vs⟩))) && (decide (ox = 0) && (true && (insO l (fk : Int) op_).isSome))) = _
        rw [hI.out])
      have HX := Lib.hid (show exB 6 = false from rfl)
      go_wp2_with (first | ((first | (go_at_call 277; (with_reducible refine (zeroX hil hS _).mono ?_)) | (go_at_call 279; (with_reducible refine (valX hil hS _ h1 h2).mono ?_)) | (go_at_call 281; (with_reducible refine (numX hil hS _ h3 h4).mono ?_)) | (go_at_call 276; (with_reducible refine (exitX hil hS _ h6).mono ?_)) | (go_at_call 278; refine (noneX hil hS ⟨vk, vn, vs⟩).mono ?_) | (go_at_call 282; refine (goalX hil hS k _ h5 r4).mono ?_) | (go_at_call 280; (with_reducible refine (needX hil hS _).mono ?_))); rintro e w9 ⟨rfl, hS9⟩; replace hS := hS9; clear hS9 x_k f_k z_k x_o; obtain ⟨x_k, f_k, z_k⟩ := kfactsX hil hS; have x_o := hS.cell 0 rfl) | (go_at_call 275; refine (exits10 6 _).mono ?_; rintro e w' ⟨rfl, rfl⟩; rw [HX.out]))
      go_end0
      refine ⟨rfl, finX hS.drop ?_⟩
      rw [E.out]
      have key : ∀ b x n p q r : Bool, (((((b || !x) || !n) || !p) || !q) || !r) = (b || !((p && (q && (r && n))) && (x && (true && true)))) := by decide
      exact key _ _ _ _ _ _
    · have E := Lib.hid (show opB l c k ⟨7, od, oa, ob, ox, (fk : Int), op_, ⟨vk, vn, vs⟩⟩ = ((btw od 0 (c.vals - 1) && (btw oa 0 (c.vals - 1) && (btw ob 0 (c.vals - 1) && nilV ⟨vk, vn, vs⟩))) && (btw ox 0 ((c.exits.length : Int) - 1) && (true && true))) by
        show ((btw od 0 (c.vals - 1) && (btw oa 0 (c.vals - 1) && (btw ob 0 (c.vals - 1) && nilV ⟨vk, vn, vs⟩))) && (btw ox 0 ((c.exits.length : Int) - 1) && (true && (insO l (fk : Int) op_).isSome))) = _
        rw [hI.out])
      have HX := Lib.hid (show exB 7 = true from rfl)
      go_wp2_with (first | ((first | (go_at_call 277; (with_reducible refine (zeroX hil hS _).mono ?_)) | (go_at_call 279; (with_reducible refine (valX hil hS _ h1 h2).mono ?_)) | (go_at_call 281; (with_reducible refine (numX hil hS _ h3 h4).mono ?_)) | (go_at_call 276; (with_reducible refine (exitX hil hS _ h6).mono ?_)) | (go_at_call 278; refine (noneX hil hS ⟨vk, vn, vs⟩).mono ?_) | (go_at_call 282; refine (goalX hil hS k _ h5 r4).mono ?_) | (go_at_call 280; (with_reducible refine (needX hil hS _).mono ?_))); rintro e w9 ⟨rfl, hS9⟩; replace hS := hS9; clear hS9 x_k f_k z_k x_o; obtain ⟨x_k, f_k, z_k⟩ := kfactsX hil hS; have x_o := hS.cell 0 rfl) | (go_at_call 275; refine (exits10 7 _).mono ?_; rintro e w' ⟨rfl, rfl⟩; rw [HX.out]))
      go_end0
      refine ⟨rfl, finX hS.drop ?_⟩
      rw [E.out]
      have key : ∀ b x n p q r : Bool, (((((b || !x) || !n) || !p) || !q) || !r) = (b || !((p && (q && (r && n))) && (x && (true && true)))) := by decide
      exact key _ _ _ _ _ _
    · have E := Lib.hid (show opB l c k ⟨8, od, oa, ob, ox, (fk : Int), op_, ⟨vk, vn, vs⟩⟩ = ((btw od 0 (c.vals - 1) && (btw oa 0 (c.vals - 1) && (btw ob 0 (c.vals - 1) && nilV ⟨vk, vn, vs⟩))) && (btw ox 0 ((c.exits.length : Int) - 1) && (true && true))) by
        show ((btw od 0 (c.vals - 1) && (btw oa 0 (c.vals - 1) && (btw ob 0 (c.vals - 1) && nilV ⟨vk, vn, vs⟩))) && (btw ox 0 ((c.exits.length : Int) - 1) && (true && (insO l (fk : Int) op_).isSome))) = _
        rw [hI.out])
      have HX := Lib.hid (show exB 8 = true from rfl)
      go_wp2_with (first | ((first | (go_at_call 277; (with_reducible refine (zeroX hil hS _).mono ?_)) | (go_at_call 279; (with_reducible refine (valX hil hS _ h1 h2).mono ?_)) | (go_at_call 281; (with_reducible refine (numX hil hS _ h3 h4).mono ?_)) | (go_at_call 276; (with_reducible refine (exitX hil hS _ h6).mono ?_)) | (go_at_call 278; refine (noneX hil hS ⟨vk, vn, vs⟩).mono ?_) | (go_at_call 282; refine (goalX hil hS k _ h5 r4).mono ?_) | (go_at_call 280; (with_reducible refine (needX hil hS _).mono ?_))); rintro e w9 ⟨rfl, hS9⟩; replace hS := hS9; clear hS9 x_k f_k z_k x_o; obtain ⟨x_k, f_k, z_k⟩ := kfactsX hil hS; have x_o := hS.cell 0 rfl) | (go_at_call 275; refine (exits10 8 _).mono ?_; rintro e w' ⟨rfl, rfl⟩; rw [HX.out]))
      go_end0
      refine ⟨rfl, finX hS.drop ?_⟩
      rw [E.out]
      have key : ∀ b x n p q r : Bool, (((((b || !x) || !n) || !p) || !q) || !r) = (b || !((p && (q && (r && n))) && (x && (true && true)))) := by decide
      exact key _ _ _ _ _ _
    · have E := Lib.hid (show opB l c k ⟨9, od, oa, ob, ox, (fk : Int), op_, ⟨vk, vn, vs⟩⟩ = ((btw od 0 (c.vals - 1) && (btw oa 0 (c.vals - 1) && (btw ob 0 (c.vals - 1) && nilV ⟨vk, vn, vs⟩))) && (btw ox 0 ((c.exits.length : Int) - 1) && (true && true))) by
        show ((btw od 0 (c.vals - 1) && (btw oa 0 (c.vals - 1) && (btw ob 0 (c.vals - 1) && nilV ⟨vk, vn, vs⟩))) && (btw ox 0 ((c.exits.length : Int) - 1) && (true && (insO l (fk : Int) op_).isSome))) = _
        rw [hI.out])
      have HX := Lib.hid (show exB 9 = true from rfl)
      go_wp2_with (first | ((first | (go_at_call 277; (with_reducible refine (zeroX hil hS _).mono ?_)) | (go_at_call 279; (with_reducible refine (valX hil hS _ h1 h2).mono ?_)) | (go_at_call 281; (with_reducible refine (numX hil hS _ h3 h4).mono ?_)) | (go_at_call 276; (with_reducible refine (exitX hil hS _ h6).mono ?_)) | (go_at_call 278; refine (noneX hil hS ⟨vk, vn, vs⟩).mono ?_) | (go_at_call 282; refine (goalX hil hS k _ h5 r4).mono ?_) | (go_at_call 280; (with_reducible refine (needX hil hS _).mono ?_))); rintro e w9 ⟨rfl, hS9⟩; replace hS := hS9; clear hS9 x_k f_k z_k x_o; obtain ⟨x_k, f_k, z_k⟩ := kfactsX hil hS; have x_o := hS.cell 0 rfl) | (go_at_call 275; refine (exits10 9 _).mono ?_; rintro e w' ⟨rfl, rfl⟩; rw [HX.out]))
      go_end0
      refine ⟨rfl, finX hS.drop ?_⟩
      rw [E.out]
      have key : ∀ b x n p q r : Bool, (((((b || !x) || !n) || !p) || !q) || !r) = (b || !((p && (q && (r && n))) && (x && (true && true)))) := by decide
      exact key _ _ _ _ _ _
    · have E := Lib.hid (show opB l c k ⟨10, od, oa, ob, ox, (fk : Int), op_, ⟨vk, vn, vs⟩⟩ = ((btw od 0 (c.vals - 1) && (btw oa 0 (c.vals - 1) && (btw ob 0 (c.vals - 1) && nilV ⟨vk, vn, vs⟩))) && (btw ox 0 ((c.exits.length : Int) - 1) && (true && true))) by
        show ((btw od 0 (c.vals - 1) && (btw oa 0 (c.vals - 1) && (btw ob 0 (c.vals - 1) && nilV ⟨vk, vn, vs⟩))) && (btw ox 0 ((c.exits.length : Int) - 1) && (true && (insO l (fk : Int) op_).isSome))) = _
        rw [hI.out])
      have HX := Lib.hid (show exB 10 = true from rfl)
      go_wp2_with (first | ((first | (go_at_call 277; (with_reducible refine (zeroX hil hS _).mono ?_)) | (go_at_call 279; (with_reducible refine (valX hil hS _ h1 h2).mono ?_)) | (go_at_call 281; (with_reducible refine (numX hil hS _ h3 h4).mono ?_)) | (go_at_call 276; (with_reducible refine (exitX hil hS _ h6).mono ?_)) | (go_at_call 278; refine (noneX hil hS ⟨vk, vn, vs⟩).mono ?_) | (go_at_call 282; refine (goalX hil hS k _ h5 r4).mono ?_) | (go_at_call 280; (with_reducible refine (needX hil hS _).mono ?_))); rintro e w9 ⟨rfl, hS9⟩; replace hS := hS9; clear hS9 x_k f_k z_k x_o; obtain ⟨x_k, f_k, z_k⟩ := kfactsX hil hS; have x_o := hS.cell 0 rfl) | (go_at_call 275; refine (exits10 10 _).mono ?_; rintro e w' ⟨rfl, rfl⟩; rw [HX.out]))
      go_end0
      refine ⟨rfl, finX hS.drop ?_⟩
      rw [E.out]
      have key : ∀ b x n p q r : Bool, (((((b || !x) || !n) || !p) || !q) || !r) = (b || !((p && (q && (r && n))) && (x && (true && true)))) := by decide
      exact key _ _ _ _ _ _
    · have E := Lib.hid (show opB l c k ⟨11, od, oa, ob, ox, (fk : Int), op_, ⟨vk, vn, vs⟩⟩ = ((btw od 0 (c.vals - 1) && (btw oa 0 (c.vals - 1) && (btw ob 0 (c.vals - 1) && nilV ⟨vk, vn, vs⟩))) && (decide (ox = 0) && (true && true))) by
        show ((btw od 0 (c.vals - 1) && (btw oa 0 (c.vals - 1) && (btw ob 0 (c.vals - 1) && nilV ⟨vk, vn, vs⟩))) && (decide (ox = 0) && (true && (insO l (fk : Int) op_).isSome))) = _
        rw [hI.out])
      have HX := Lib.hid (show exB 11 = false from rfl)
      go_wp2_with (first | ((first | (go_at_call 277; (with_reducible refine (zeroX hil hS _).mono ?_)) | (go_at_call 279; (with_reducible refine (valX hil hS _ h1 h2).mono ?_)) | (go_at_call 281; (with_reducible refine (numX hil hS _ h3 h4).mono ?_)) | (go_at_call 276; (with_reducible refine (exitX hil hS _ h6).mono ?_)) | (go_at_call 278; refine (noneX hil hS ⟨vk, vn, vs⟩).mono ?_) | (go_at_call 282; refine (goalX hil hS k _ h5 r4).mono ?_) | (go_at_call 280; (with_reducible refine (needX hil hS _).mono ?_))); rintro e w9 ⟨rfl, hS9⟩; replace hS := hS9; clear hS9 x_k f_k z_k x_o; obtain ⟨x_k, f_k, z_k⟩ := kfactsX hil hS; have x_o := hS.cell 0 rfl) | (go_at_call 275; refine (exits10 11 _).mono ?_; rintro e w' ⟨rfl, rfl⟩; rw [HX.out]))
      go_end0
      refine ⟨rfl, finX hS.drop ?_⟩
      rw [E.out]
      have key : ∀ b x n p q r : Bool, (((((b || !x) || !n) || !p) || !q) || !r) = (b || !((p && (q && (r && n))) && (x && (true && true)))) := by decide
      exact key _ _ _ _ _ _
    · have E := Lib.hid (show opB l c k ⟨12, od, oa, ob, ox, (fk : Int), op_, ⟨vk, vn, vs⟩⟩ = ((btw od 0 (c.vals - 1) && (btw oa 0 (c.vals - 1) && (decide (ob = 0) && nilV ⟨vk, vn, vs⟩))) && (btw ox 0 ((c.exits.length : Int) - 1) && (true && true))) by
        show ((btw od 0 (c.vals - 1) && (btw oa 0 (c.vals - 1) && (decide (ob = 0) && nilV ⟨vk, vn, vs⟩))) && (btw ox 0 ((c.exits.length : Int) - 1) && (true && (insO l (fk : Int) op_).isSome))) = _
        rw [hI.out])
      have HX := Lib.hid (show exB 12 = true from rfl)
      go_wp2_with (first | ((first | (go_at_call 277; (with_reducible refine (zeroX hil hS _).mono ?_)) | (go_at_call 279; (with_reducible refine (valX hil hS _ h1 h2).mono ?_)) | (go_at_call 281; (with_reducible refine (numX hil hS _ h3 h4).mono ?_)) | (go_at_call 276; (with_reducible refine (exitX hil hS _ h6).mono ?_)) | (go_at_call 278; refine (noneX hil hS ⟨vk, vn, vs⟩).mono ?_) | (go_at_call 282; refine (goalX hil hS k _ h5 r4).mono ?_) | (go_at_call 280; (with_reducible refine (needX hil hS _).mono ?_))); rintro e w9 ⟨rfl, hS9⟩; replace hS := hS9; clear hS9 x_k f_k z_k x_o; obtain ⟨x_k, f_k, z_k⟩ := kfactsX hil hS; have x_o := hS.cell 0 rfl) | (go_at_call 275; refine (exits10 12 _).mono ?_; rintro e w' ⟨rfl, rfl⟩; rw [HX.out]))
      go_end0
      refine ⟨rfl, finX hS.drop ?_⟩
      rw [E.out]
      have key : ∀ b x n p q r : Bool, (((((b || !x) || !n) || !p) || !q) || !r) = (b || !((p && (q && (r && n))) && (x && (true && true)))) := by decide
      exact key _ _ _ _ _ _
    · have E := Lib.hid (show opB l c k ⟨13, od, oa, ob, ox, (fk : Int), op_, ⟨vk, vn, vs⟩⟩ = ((btw od 0 (c.nums - 1) && (btw oa 0 (c.nums - 1) && (btw ob 0 (c.nums - 1) && nilV ⟨vk, vn, vs⟩))) && (btw ox 0 ((c.exits.length : Int) - 1) && (true && true))) by
        show ((btw od 0 (c.nums - 1) && (btw oa 0 (c.nums - 1) && (btw ob 0 (c.nums - 1) && nilV ⟨vk, vn, vs⟩))) && (btw ox 0 ((c.exits.length : Int) - 1) && (true && (insO l (fk : Int) op_).isSome))) = _
        rw [hI.out])
      have HX := Lib.hid (show exB 13 = true from rfl)
      go_wp2_with (first | ((first | (go_at_call 277; (with_reducible refine (zeroX hil hS _).mono ?_)) | (go_at_call 279; (with_reducible refine (valX hil hS _ h1 h2).mono ?_)) | (go_at_call 281; (with_reducible refine (numX hil hS _ h3 h4).mono ?_)) | (go_at_call 276; (with_reducible refine (exitX hil hS _ h6).mono ?_)) | (go_at_call 278; refine (noneX hil hS ⟨vk, vn, vs⟩).mono ?_) | (go_at_call 282; refine (goalX hil hS k _ h5 r4).mono ?_) | (go_at_call 280; (with_reducible refine (needX hil hS _).mono ?_))); rintro e w9 ⟨rfl, hS9⟩; replace hS := hS9; clear hS9 x_k f_k z_k x_o; obtain ⟨x_k, f_k, z_k⟩ := kfactsX hil hS; have x_o := hS.cell 0 rfl) | (go_at_call 275; refine (exits10 13 _).mono ?_; rintro e w' ⟨rfl, rfl⟩; rw [HX.out]))
      go_end0
      refine ⟨rfl, finX hS.drop ?_⟩
      rw [E.out]
      have key : ∀ b x n p q r : Bool, (((((b || !x) || !n) || !p) || !q) || !r) = (b || !((p && (q && (r && n))) && (x && (true && true)))) := by decide
      exact key _ _ _ _ _ _
    · have E := Lib.hid (show opB l c k ⟨14, od, oa, ob, ox, (fk : Int), op_, ⟨vk, vn, vs⟩⟩ = ((btw od 0 (c.nums - 1) && (btw oa 0 (c.nums - 1) && (btw ob 0 (c.nums - 1) && nilV ⟨vk, vn, vs⟩))) && (btw ox 0 ((c.exits.length : Int) - 1) && (true && true))) by
        show ((btw od 0 (c.nums - 1) && (btw oa 0 (c.nums - 1) && (btw ob 0 (c.nums - 1) && nilV ⟨vk, vn, vs⟩))) && (btw ox 0 ((c.exits.length : Int) - 1) && (true && (insO l (fk : Int) op_).isSome))) = _
        rw [hI.out])
      have HX := Lib.hid (show exB 14 = true from rfl)
      go_wp2_with (first | ((first | (go_at_call 277; (with_reducible refine (zeroX hil hS _).mono ?_)) | (go_at_call 279; (with_reducible refine (valX hil hS _ h1 h2).mono ?_)) | (go_at_call 281; (with_reducible refine (numX hil hS _ h3 h4).mono ?_)) | (go_at_call 276; (with_reducible refine (exitX hil hS _ h6).mono ?_)) | (go_at_call 278; refine (noneX hil hS ⟨vk, vn, vs⟩).mono ?_) | (go_at_call 282; refine (goalX hil hS k _ h5 r4).mono ?_) | (go_at_call 280; (with_reducible refine (needX hil hS _).mono ?_))); rintro e w9 ⟨rfl, hS9⟩; replace hS := hS9; clear hS9 x_k f_k z_k x_o; obtain ⟨x_k, f_k, z_k⟩ := kfactsX hil hS; have x_o := hS.cell 0 rfl) | (go_at_call 275; refine (exits10 14 _).mono ?_; rintro e w' ⟨rfl, rfl⟩; rw [HX.out]))
      go_end0
      refine ⟨rfl, finX hS.drop ?_⟩
      rw [E.out]
      have key : ∀ b x n p q r : Bool, (((((b || !x) || !n) || !p) || !q) || !r) = (b || !((p && (q && (r && n))) && (x && (true && true)))) := by decide
      exact key _ _ _ _ _ _
    · have E := Lib.hid (show opB l c k ⟨15, od, oa, ob, ox, (fk : Int), op_, ⟨vk, vn, vs⟩⟩ = ((btw od 0 (c.nums - 1) && (btw oa 0 (c.nums - 1) && (btw ob 0 (c.nums - 1) && nilV ⟨vk, vn, vs⟩))) && (btw ox 0 ((c.exits.length : Int) - 1) && (true && true))) by
        show ((btw od 0 (c.nums - 1) && (btw oa 0 (c.nums - 1) && (btw ob 0 (c.nums - 1) && nilV ⟨vk, vn, vs⟩))) && (btw ox 0 ((c.exits.length : Int) - 1) && (true && (insO l (fk : Int) op_).isSome))) = _
        rw [hI.out])
      have HX := Lib.hid (show exB 15 = true from rfl)
      go_wp2_with (first | ((first | (go_at_call 277; (with_reducible refine (zeroX hil hS _).mono ?_)) | (go_at_call 279; (with_reducible refine (valX hil hS _ h1 h2).mono ?_)) | (go_at_call 281; (with_reducible refine (numX hil hS _ h3 h4).mono ?_)) | (go_at_call 276; (with_reducible refine (exitX hil hS _ h6).mono ?_)) | (go_at_call 278; refine (noneX hil hS ⟨vk, vn, vs⟩).mono ?_) | (go_at_call 282; refine (goalX hil hS k _ h5 r4).mono ?_) | (go_at_call 280; (with_reducible refine (needX hil hS _).mono ?_))); rintro e w9 ⟨rfl, hS9⟩; replace hS := hS9; clear hS9 x_k f_k z_k x_o; obtain ⟨x_k, f_k, z_k⟩ := kfactsX hil hS; have x_o := hS.cell 0 rfl) | (go_at_call 275; refine (exits10 15 _).mono ?_; rintro e w' ⟨rfl, rfl⟩; rw [HX.out]))
      go_end0
      refine ⟨rfl, finX hS.drop ?_⟩
      rw [E.out]
      have key : ∀ b x n p q r : Bool, (((((b || !x) || !n) || !p) || !q) || !r) = (b || !((p && (q && (r && n))) && (x && (true && true)))) := by decide
      exact key _ _ _ _ _ _
    · have E := Lib.hid (show opB l c k ⟨16, od, oa, ob, ox, (fk : Int), op_, ⟨vk, vn, vs⟩⟩ = ((btw od 0 (c.vals - 1) && (btw oa 0 (c.nums - 1) && (btw ob 0 (c.nums - 1) && nilV ⟨vk, vn, vs⟩))) && (decide (ox = 0) && (true && true))) by
        show ((btw od 0 (c.vals - 1) && (btw oa 0 (c.nums - 1) && (btw ob 0 (c.nums - 1) && nilV ⟨vk, vn, vs⟩))) && (decide (ox = 0) && (true && (insO l (fk : Int) op_).isSome))) = _
        rw [hI.out])
      have HX := Lib.hid (show exB 16 = false from rfl)
      go_wp2_with (first | ((first | (go_at_call 277; (with_reducible refine (zeroX hil hS _).mono ?_)) | (go_at_call 279; (with_reducible refine (valX hil hS _ h1 h2).mono ?_)) | (go_at_call 281; (with_reducible refine (numX hil hS _ h3 h4).mono ?_)) | (go_at_call 276; (with_reducible refine (exitX hil hS _ h6).mono ?_)) | (go_at_call 278; refine (noneX hil hS ⟨vk, vn, vs⟩).mono ?_) | (go_at_call 282; refine (goalX hil hS k _ h5 r4).mono ?_) | (go_at_call 280; (with_reducible refine (needX hil hS _).mono ?_))); rintro e w9 ⟨rfl, hS9⟩; replace hS := hS9; clear hS9 x_k f_k z_k x_o; obtain ⟨x_k, f_k, z_k⟩ := kfactsX hil hS; have x_o := hS.cell 0 rfl) | (go_at_call 275; refine (exits10 16 _).mono ?_; rintro e w' ⟨rfl, rfl⟩; rw [HX.out]))
      go_end0
      refine ⟨rfl, finX hS.drop ?_⟩
      rw [E.out]
      have key : ∀ b x n p q r : Bool, (((((b || !x) || !n) || !p) || !q) || !r) = (b || !((p && (q && (r && n))) && (x && (true && true)))) := by decide
      exact key _ _ _ _ _ _
    · have E := Lib.hid (show opB l c k ⟨17, od, oa, ob, ox, (fk : Int), op_, ⟨vk, vn, vs⟩⟩ = ((btw od 0 (c.vals - 1) && (btw oa 0 6 && (decide (ob = 0) && nilV ⟨vk, vn, vs⟩))) && (btw ox 0 ((c.exits.length : Int) - 1) && (true && true))) by
        show ((btw od 0 (c.vals - 1) && (btw oa 0 6 && (decide (ob = 0) && nilV ⟨vk, vn, vs⟩))) && (btw ox 0 ((c.exits.length : Int) - 1) && (true && (insO l (fk : Int) op_).isSome))) = _
        rw [hI.out])
      have HX := Lib.hid (show exB 17 = true from rfl)
      go_wp2_with (first | ((first | (go_at_call 277; (with_reducible refine (zeroX hil hS _).mono ?_)) | (go_at_call 279; (with_reducible refine (valX hil hS _ h1 h2).mono ?_)) | (go_at_call 281; (with_reducible refine (numX hil hS _ h3 h4).mono ?_)) | (go_at_call 276; (with_reducible refine (exitX hil hS _ h6).mono ?_)) | (go_at_call 278; refine (noneX hil hS ⟨vk, vn, vs⟩).mono ?_) | (go_at_call 282; refine (goalX hil hS k _ h5 r4).mono ?_) | (go_at_call 280; (with_reducible refine (needX hil hS _).mono ?_))); rintro e w9 ⟨rfl, hS9⟩; replace hS := hS9; clear hS9 x_k f_k z_k x_o; obtain ⟨x_k, f_k, z_k⟩ := kfactsX hil hS; have x_o := hS.cell 0 rfl) | (go_at_call 121; (with_reducible refine (between (r := btw oa 0 6) _ rfl).mono ?_); rintro e w' ⟨rfl, rfl⟩) | (go_at_call 275; refine (exits10 17 _).mono ?_; rintro e w' ⟨rfl, rfl⟩; rw [HX.out]))
      go_end0
      refine ⟨rfl, finX hS.drop ?_⟩
      rw [E.out]
      have key : ∀ b x n p q r : Bool, (((((b || !x) || !n) || !p) || !q) || !r) = (b || !((p && (q && (r && n))) && (x && (true && true)))) := by decide
      exact key _ _ _ _ _ _
    · have E := Lib.hid (show opB l c k ⟨18, od, oa, ob, ox, (fk : Int), op_, ⟨vk, vn, vs⟩⟩ = ((btw od 0 (c.vals - 1) && (btw oa 0 (c.vals - 1) && (btw ob 0 5 && nilV ⟨vk, vn, vs⟩))) && (btw ox 0 ((c.exits.length : Int) - 1) && (true && true))) by
        show ((btw od 0 (c.vals - 1) && (btw oa 0 (c.vals - 1) && (btw ob 0 5 && nilV ⟨vk, vn, vs⟩))) && (btw ox 0 ((c.exits.length : Int) - 1) && (true && (insO l (fk : Int) op_).isSome))) = _
        rw [hI.out])
      have HX := Lib.hid (show exB 18 = true from rfl)
      go_wp2_with (first | ((first | (go_at_call 277; (with_reducible refine (zeroX hil hS _).mono ?_)) | (go_at_call 279; (with_reducible refine (valX hil hS _ h1 h2).mono ?_)) | (go_at_call 281; (with_reducible refine (numX hil hS _ h3 h4).mono ?_)) | (go_at_call 276; (with_reducible refine (exitX hil hS _ h6).mono ?_)) | (go_at_call 278; refine (noneX hil hS ⟨vk, vn, vs⟩).mono ?_) | (go_at_call 282; refine (goalX hil hS k _ h5 r4).mono ?_) | (go_at_call 280; (with_reducible refine (needX hil hS _).mono ?_))); rintro e w9 ⟨rfl, hS9⟩; replace hS := hS9; clear hS9 x_k f_k z_k x_o; obtain ⟨x_k, f_k, z_k⟩ := kfactsX hil hS; have x_o := hS.cell 0 rfl) | (go_at_call 121; (with_reducible refine (between (r := btw ob 0 5) _ rfl).mono ?_); rintro e w' ⟨rfl, rfl⟩) | (go_at_call 275; refine (exits10 18 _).mono ?_; rintro e w' ⟨rfl, rfl⟩; rw [HX.out]))
      go_end0
      refine ⟨rfl, finX hS.drop ?_⟩
      rw [E.out]
      have key : ∀ b x n p q r : Bool, (((((b || !x) || !n) || !p) || !q) || !r) = (b || !((p && (q && (r && n))) && (x && (true && true)))) := by decide
      exact key _ _ _ _ _ _
    · have E := Lib.hid (show opB l c k ⟨19, od, oa, ob, ox, (fk : Int), op_, ⟨vk, vn, vs⟩⟩ = ((btw od 0 5 && (btw oa 0 (c.vals - 1) && (btw ob 0 (c.vals - 1) && nilV ⟨vk, vn, vs⟩))) && (btw ox 0 ((c.exits.length : Int) - 1) && (true && true))) by
        show ((btw od 0 5 && (btw oa 0 (c.vals - 1) && (btw ob 0 (c.vals - 1) && nilV ⟨vk, vn, vs⟩))) && (btw ox 0 ((c.exits.length : Int) - 1) && (true && (insO l (fk : Int) op_).isSome))) = _
        rw [hI.out])
      have HX := Lib.hid (show exB 19 = true from rfl)
      go_wp2_with (first | ((first | (go_at_call 277; (with_reducible refine (zeroX hil hS _).mono ?_)) | (go_at_call 279; (with_reducible refine (valX hil hS _ h1 h2).mono ?_)) | (go_at_call 281; (with_reducible refine (numX hil hS _ h3 h4).mono ?_)) | (go_at_call 276; (with_reducible refine (exitX hil hS _ h6).mono ?_)) | (go_at_call 278; refine (noneX hil hS ⟨vk, vn, vs⟩).mono ?_) | (go_at_call 282; refine (goalX hil hS k _ h5 r4).mono ?_) | (go_at_call 280; (with_reducible refine (needX hil hS _).mono ?_))); rintro e w9 ⟨rfl, hS9⟩; replace hS := hS9; clear hS9 x_k f_k z_k x_o; obtain ⟨x_k, f_k, z_k⟩ := kfactsX hil hS; have x_o := hS.cell 0 rfl) | (go_at_call 121; (with_reducible refine (between (r := btw od 0 5) _ rfl).mono ?_); rintro e w' ⟨rfl, rfl⟩) | (go_at_call 275; refine (exits10 19 _).mono ?_; rintro e w' ⟨rfl, rfl⟩; rw [HX.out]))
      go_end0
      refine ⟨rfl, finX hS.drop ?_⟩
      rw [E.out]
      have key : ∀ b x n p q r : Bool, (((((b || !x) || !n) || !p) || !q) || !r) = (b || !((p && (q && (r && n))) && (x && (true && true)))) := by decide
      exact key _ _ _ _ _ _
    · have E := Lib.hid (show opB l c k ⟨20, od, oa, ob, ox, (fk : Int), op_, ⟨vk, vn, vs⟩⟩ = ((decide (od = 0) && (decide (oa = 0) && (decide (ob = 0) && nilV ⟨vk, vn, vs⟩))) && (btw ox 0 ((c.exits.length : Int) - 1) && (true && true))) by
        show ((decide (od = 0) && (decide (oa = 0) && (decide (ob = 0) && nilV ⟨vk, vn, vs⟩))) && (btw ox 0 ((c.exits.length : Int) - 1) && (true && (insO l (fk : Int) op_).isSome))) = _
        rw [hI.out])
      have HX := Lib.hid (show exB 20 = true from rfl)
      go_wp2_with (first | ((first | (go_at_call 277; (with_reducible refine (zeroX hil hS _).mono ?_)) | (go_at_call 279; (with_reducible refine (valX hil hS _ h1 h2).mono ?_)) | (go_at_call 281; (with_reducible refine (numX hil hS _ h3 h4).mono ?_)) | (go_at_call 276; (with_reducible refine (exitX hil hS _ h6).mono ?_)) | (go_at_call 278; refine (noneX hil hS ⟨vk, vn, vs⟩).mono ?_) | (go_at_call 282; refine (goalX hil hS k _ h5 r4).mono ?_) | (go_at_call 280; (with_reducible refine (needX hil hS _).mono ?_))); rintro e w9 ⟨rfl, hS9⟩; replace hS := hS9; clear hS9 x_k f_k z_k x_o; obtain ⟨x_k, f_k, z_k⟩ := kfactsX hil hS; have x_o := hS.cell 0 rfl) | (go_at_call 275; refine (exits10 20 _).mono ?_; rintro e w' ⟨rfl, rfl⟩; rw [HX.out]))
      go_end0
      refine ⟨rfl, finX hS.drop ?_⟩
      rw [E.out]
      have key : ∀ b x n p q r : Bool, (((((b || !x) || !n) || !p) || !q) || !r) = (b || !((p && (q && (r && n))) && (x && (true && true)))) := by decide
      exact key _ _ _ _ _ _
    · have E := Lib.hid (show opB l c k ⟨21, od, oa, ob, ox, (fk : Int), op_, ⟨vk, vn, vs⟩⟩ = ((btw od 0 (c.vals - 1) && (btw oa 0 6 && (decide (ob = 0) && nilV ⟨vk, vn, vs⟩))) && (decide (ox = 0) && (true && true))) by
        show ((btw od 0 (c.vals - 1) && (btw oa 0 6 && (decide (ob = 0) && nilV ⟨vk, vn, vs⟩))) && (decide (ox = 0) && (true && (insO l (fk : Int) op_).isSome))) = _
        rw [hI.out])
      have HX := Lib.hid (show exB 21 = false from rfl)
      go_wp2_with (first | ((first | (go_at_call 277; (with_reducible refine (zeroX hil hS _).mono ?_)) | (go_at_call 279; (with_reducible refine (valX hil hS _ h1 h2).mono ?_)) | (go_at_call 281; (with_reducible refine (numX hil hS _ h3 h4).mono ?_)) | (go_at_call 276; (with_reducible refine (exitX hil hS _ h6).mono ?_)) | (go_at_call 278; refine (noneX hil hS ⟨vk, vn, vs⟩).mono ?_) | (go_at_call 282; refine (goalX hil hS k _ h5 r4).mono ?_) | (go_at_call 280; (with_reducible refine (needX hil hS _).mono ?_))); rintro e w9 ⟨rfl, hS9⟩; replace hS := hS9; clear hS9 x_k f_k z_k x_o; obtain ⟨x_k, f_k, z_k⟩ := kfactsX hil hS; have x_o := hS.cell 0 rfl) | (go_at_call 121; (with_reducible refine (between (r := btw oa 0 6) _ rfl).mono ?_); rintro e w' ⟨rfl, rfl⟩) | (go_at_call 275; refine (exits10 21 _).mono ?_; rintro e w' ⟨rfl, rfl⟩; rw [HX.out]))
      go_end0
      refine ⟨rfl, finX hS.drop ?_⟩
      rw [E.out]
      have key : ∀ b x n p q r : Bool, (((((b || !x) || !n) || !p) || !q) || !r) = (b || !((p && (q && (r && n))) && (x && (true && true)))) := by decide
      exact key _ _ _ _ _ _
    · have E := Lib.hid (show opB l c k ⟨22, od, oa, ob, ox, (fk : Int), op_, ⟨vk, vn, vs⟩⟩ = ((decide (od = 0) && (btw oa 0 (c.vals - 1) && (btw ob 0 ((l.length : Int) - 1) && nilV ⟨vk, vn, vs⟩))) && (btw ox 0 ((c.exits.length : Int) - 1) && (true && true))) by
        show ((decide (od = 0) && (btw oa 0 (c.vals - 1) && (btw ob 0 ((l.length : Int) - 1) && nilV ⟨vk, vn, vs⟩))) && (btw ox 0 ((c.exits.length : Int) - 1) && (true && (insO l (fk : Int) op_).isSome))) = _
        rw [hI.out])
      have HX := Lib.hid (show exB 22 = true from rfl)
      go_wp2_with (first | ((first | (go_at_call 277; (with_reducible refine (zeroX hil hS _).mono ?_)) | (go_at_call 279; (with_reducible refine (valX hil hS _ h1 h2).mono ?_)) | (go_at_call 281; (with_reducible refine (numX hil hS _ h3 h4).mono ?_)) | (go_at_call 276; (with_reducible refine (exitX hil hS _ h6).mono ?_)) | (go_at_call 278; refine (noneX hil hS ⟨vk, vn, vs⟩).mono ?_) | (go_at_call 282; refine (goalX hil hS k _ h5 r4).mono ?_) | (go_at_call 280; (with_reducible refine (needX hil hS _).mono ?_))); rintro e w9 ⟨rfl, hS9⟩; replace hS := hS9; clear hS9 x_k f_k z_k x_o; obtain ⟨x_k, f_k, z_k⟩ := kfactsX hil hS; have x_o := hS.cell 0 rfl) | (go_at_call 275; refine (exits10 22 _).mono ?_; rintro e w' ⟨rfl, rfl⟩; rw [HX.out]))
      have hS2 := hS.drew
      clear x_k f_k z_k x_o
      refine wp_region_held_drew (S := (fun w' => w'.cell? ⟨W.heap.size, 3, none⟩ = some (.int .i64 ob) ∧ w'.cell? ⟨g, 0, none⟩ = some (.slice A t.length c0) ∧ w'.cell? ⟨g, 1, none⟩ = some (.slice (some adf) l.length d0))) (by kernel_rfl) (⟨hS2.cell 0 rfl 3, (kfactsX hil hS2).1 0, (kfactsX hil hS2).1 1⟩) (fun hHeld => ?_)
      (iterate 10 (first | refine rQ1 ?_ | refine rQ2 ?_); try simp only [pP])
      refine regC 10 rfl (by kernel_rfl) (by rfl) (fun Kq hKq => ?_)
      go_simp
      (with_reducible refine (between (r := btw ob 0 ((l.length : Int) - 1)) _ rfl).mono ?_)
      rintro e w3 ⟨rfl, rfl⟩
      try go_wp2_with fail
      refine hKq.out _ _ (hHeld) (fun hHeld => ?_)
      clear hKq Kq
      (try simp only [pP])
      refine regC 11 rfl (by kernel_rfl) (by rfl) (fun Kq hKq => ?_)
      go_simp
      (with_reducible refine (needX hil hS2 _).mono ?_)
      rintro e w9 ⟨rfl, hS9⟩
      try go_wp2_with fail
      refine hKq.out _ _ (⟨hS9.cell 0 rfl 3, (kfactsX hil hS9).1 0, (kfactsX hil hS9).1 1⟩) (fun hHeld => ?_)
      clear hKq Kq
      (try simp only [pP])
      refine wpAnyH_done (by kernel_rfl) ?_ _
      clear hHeld
      go_wp2
      go_end0
      refine ⟨rfl, finX hS9.drop ?_⟩
      rw [E.out]
      have key : ∀ b x n p q r : Bool, (((((b || !x) || !n) || !p) || !q) || !r) = (b || !((p && (q && (r && n))) && (x && (true && true)))) := by decide
      exact key _ _ _ _ _ _
    · have E := Lib.hid (show opB l c k ⟨23, od, oa, ob, ox, (fk : Int), op_, ⟨vk, vn, vs⟩⟩ = ((decide (od = 0) && (btw oa 0 ((c.ops.length : Int) - 1) && (decide (ob = 0) && nilV ⟨vk, vn, vs⟩))) && (decide (ox = 0) && (backB c.ops k oa && true))) by
        show ((decide (od = 0) && (btw oa 0 ((c.ops.length : Int) - 1) && (decide (ob = 0) && nilV ⟨vk, vn, vs⟩))) && (decide (ox = 0) && (backB c.ops k oa && (insO l (fk : Int) op_).isSome))) = _
        rw [hI.out])
      have HX := Lib.hid (show exB 23 = false from rfl)
      go_wp2_with (first | ((first | (go_at_call 277; (with_reducible refine (zeroX hil hS _).mono ?_)) | (go_at_call 279; (with_reducible refine (valX hil hS _ h1 h2).mono ?_)) | (go_at_call 281; (with_reducible refine (numX hil hS _ h3 h4).mono ?_)) | (go_at_call 276; (with_reducible refine (exitX hil hS _ h6).mono ?_)) | (go_at_call 278; refine (noneX hil hS ⟨vk, vn, vs⟩).mono ?_) | (go_at_call 282; refine (goalX hil hS k _ h5 r4).mono ?_) | (go_at_call 280; (with_reducible refine (needX hil hS _).mono ?_))); rintro e w9 ⟨rfl, hS9⟩; replace hS := hS9; clear hS9 x_k f_k z_k x_o; obtain ⟨x_k, f_k, z_k⟩ := kfactsX hil hS; have x_o := hS.cell 0 rfl) | (go_at_call 275; refine (exits10 23 _).mono ?_; rintro e w' ⟨rfl, rfl⟩; rw [HX.out]))
      go_end0
      refine ⟨rfl, finX hS.drop ?_⟩
      rw [E.out]
      have key : ∀ b x n p q r s : Bool, (((((b || !x) || !n) || !p) || !(q && s)) || !r) = (b || !((p && (q && (r && n))) && (x && (s && true)))) := by decide
      exact key _ _ _ _ _ _ _
    · have E := Lib.hid (show opB l c k ⟨24, od, oa, ob, ox, (fk : Int), op_, ⟨vk, vn, vs⟩⟩ = ((decide (od = 0) && (btw oa 0 (c.vals - 1) && (btw ob 0 ((c.ops.length : Int) - 1) && nilV ⟨vk, vn, vs⟩))) && (btw ox 0 ((c.exits.length : Int) - 1) && (backB c.ops k ob && true))) by
        show ((decide (od = 0) && (btw oa 0 (c.vals - 1) && (btw ob 0 ((c.ops.length : Int) - 1) && nilV ⟨vk, vn, vs⟩))) && (btw ox 0 ((c.exits.length : Int) - 1) && (backB c.ops k ob && (insO l (fk : Int) op_).isSome))) = _
        rw [hI.out])
      have HX := Lib.hid (show exB 24 = true from rfl)
      go_wp2_with (first | ((first | (go_at_call 277; (with_reducible refine (zeroX hil hS _).mono ?_)) | (go_at_call 279; (with_reducible refine (valX hil hS _ h1 h2).mono ?_)) | (go_at_call 281; (with_reducible refine (numX hil hS _ h3 h4).mono ?_)) | (go_at_call 276; (with_reducible refine (exitX hil hS _ h6).mono ?_)) | (go_at_call 278; refine (noneX hil hS ⟨vk, vn, vs⟩).mono ?_) | (go_at_call 282; refine (goalX hil hS k _ h5 r4).mono ?_) | (go_at_call 280; (with_reducible refine (needX hil hS _).mono ?_))); rintro e w9 ⟨rfl, hS9⟩; replace hS := hS9; clear hS9 x_k f_k z_k x_o; obtain ⟨x_k, f_k, z_k⟩ := kfactsX hil hS; have x_o := hS.cell 0 rfl) | (go_at_call 275; refine (exits10 24 _).mono ?_; rintro e w' ⟨rfl, rfl⟩; rw [HX.out]))
      go_end0
      refine ⟨rfl, finX hS.drop ?_⟩
      rw [E.out]
      have key : ∀ b x n p q r s : Bool, (((((b || !x) || !n) || !p) || !q) || !(r && s)) = (b || !((p && (q && (r && n))) && (x && (s && true)))) := by decide
      exact key _ _ _ _ _ _ _
    · have E := Lib.hid (show opB l c k ⟨25, od, oa, ob, ox, (fk : Int), op_, ⟨vk, vn, vs⟩⟩ = ((decide (od = 0) && (decide (oa = 0) && (decide (ob = 0) && nilV ⟨vk, vn, vs⟩))) && (btw ox 0 ((c.exits.length : Int) - 1) && (true && true))) by
        show ((decide (od = 0) && (decide (oa = 0) && (decide (ob = 0) && nilV ⟨vk, vn, vs⟩))) && (btw ox 0 ((c.exits.length : Int) - 1) && (true && (insO l (fk : Int) op_).isSome))) = _
        rw [hI.out])
      have HX := Lib.hid (show exB 25 = true from rfl)
      go_wp2_with (first | ((first | (go_at_call 277; (with_reducible refine (zeroX hil hS _).mono ?_)) | (go_at_call 279; (with_reducible refine (valX hil hS _ h1 h2).mono ?_)) | (go_at_call 281; (with_reducible refine (numX hil hS _ h3 h4).mono ?_)) | (go_at_call 276; (with_reducible refine (exitX hil hS _ h6).mono ?_)) | (go_at_call 278; refine (noneX hil hS ⟨vk, vn, vs⟩).mono ?_) | (go_at_call 282; refine (goalX hil hS k _ h5 r4).mono ?_) | (go_at_call 280; (with_reducible refine (needX hil hS _).mono ?_))); rintro e w9 ⟨rfl, hS9⟩; replace hS := hS9; clear hS9 x_k f_k z_k x_o; obtain ⟨x_k, f_k, z_k⟩ := kfactsX hil hS; have x_o := hS.cell 0 rfl) | (go_at_call 275; refine (exits10 25 _).mono ?_; rintro e w' ⟨rfl, rfl⟩; rw [HX.out]))
      go_end0
      refine ⟨rfl, finX hS.drop ?_⟩
      rw [E.out]
      have key : ∀ b x n p q r : Bool, (((((b || !x) || !n) || !p) || !q) || !r) = (b || !((p && (q && (r && n))) && (x && (true && true)))) := by decide
      exact key _ _ _ _ _ _
    · have E := Lib.hid (show opB l c k ⟨26, od, oa, ob, ox, (fk : Int), op_, ⟨vk, vn, vs⟩⟩ = ((decide (od = 0) && (decide (oa = 0) && (decide (ob = 0) && nilV ⟨vk, vn, vs⟩))) && (btw ox 0 ((c.exits.length : Int) - 1) && (true && true))) by
        show ((decide (od = 0) && (decide (oa = 0) && (decide (ob = 0) && nilV ⟨vk, vn, vs⟩))) && (btw ox 0 ((c.exits.length : Int) - 1) && (true && (insO l (fk : Int) op_).isSome))) = _
        rw [hI.out])
      have HX := Lib.hid (show exB 26 = true from rfl)
      go_wp2_with (first | ((first | (go_at_call 277; (with_reducible refine (zeroX hil hS _).mono ?_)) | (go_at_call 279; (with_reducible refine (valX hil hS _ h1 h2).mono ?_)) | (go_at_call 281; (with_reducible refine (numX hil hS _ h3 h4).mono ?_)) | (go_at_call 276; (with_reducible refine (exitX hil hS _ h6).mono ?_)) | (go_at_call 278; refine (noneX hil hS ⟨vk, vn, vs⟩).mono ?_) | (go_at_call 282; refine (goalX hil hS k _ h5 r4).mono ?_) | (go_at_call 280; (with_reducible refine (needX hil hS _).mono ?_))); rintro e w9 ⟨rfl, hS9⟩; replace hS := hS9; clear hS9 x_k f_k z_k x_o; obtain ⟨x_k, f_k, z_k⟩ := kfactsX hil hS; have x_o := hS.cell 0 rfl) | (go_at_call 275; refine (exits10 26 _).mono ?_; rintro e w' ⟨rfl, rfl⟩; rw [HX.out]))
      go_end0
      refine ⟨rfl, finX hS.drop ?_⟩
      rw [E.out]
      have key : ∀ b x n p q r : Bool, (((((b || !x) || !n) || !p) || !q) || !r) = (b || !((p && (q && (r && n))) && (x && (true && true)))) := by decide
      exact key _ _ _ _ _ _
    · have E := Lib.hid (show opB l c k ⟨27, od, oa, ob, ox, (fk : Int), op_, ⟨vk, vn, vs⟩⟩ = ((decide (od = 0) && (btw oa 0 (c.vals - 1) && (decide (ob = 0) && nilV ⟨vk, vn, vs⟩))) && (decide (ox = 0) && (true && true))) by
        show ((decide (od = 0) && (btw oa 0 (c.vals - 1) && (decide (ob = 0) && nilV ⟨vk, vn, vs⟩))) && (decide (ox = 0) && (true && (insO l (fk : Int) op_).isSome))) = _
        rw [hI.out])
      have HX := Lib.hid (show exB 27 = false from rfl)
      go_wp2_with (first | ((first | (go_at_call 277; (with_reducible refine (zeroX hil hS _).mono ?_)) | (go_at_call 279; (with_reducible refine (valX hil hS _ h1 h2).mono ?_)) | (go_at_call 281; (with_reducible refine (numX hil hS _ h3 h4).mono ?_)) | (go_at_call 276; (with_reducible refine (exitX hil hS _ h6).mono ?_)) | (go_at_call 278; refine (noneX hil hS ⟨vk, vn, vs⟩).mono ?_) | (go_at_call 282; refine (goalX hil hS k _ h5 r4).mono ?_) | (go_at_call 280; (with_reducible refine (needX hil hS _).mono ?_))); rintro e w9 ⟨rfl, hS9⟩; replace hS := hS9; clear hS9 x_k f_k z_k x_o; obtain ⟨x_k, f_k, z_k⟩ := kfactsX hil hS; have x_o := hS.cell 0 rfl) | (go_at_call 275; refine (exits10 27 _).mono ?_; rintro e w' ⟨rfl, rfl⟩; rw [HX.out]))
      go_end0
      refine ⟨rfl, finX hS.drop ?_⟩
      rw [E.out]
      have key : ∀ b x n p q r : Bool, (((((b || !x) || !n) || !p) || !q) || !r) = (b || !((p && (q && (r && n))) && (x && (true && true)))) := by decide
      exact key _ _ _ _ _ _
    · have E := Lib.hid (show opB l c k ⟨28, od, oa, ob, ox, (fk : Int), op_, ⟨vk, vn, vs⟩⟩ = ((decide (od = 0) && (btw oa 0 (c.vals - 1) && (decide (ob = 0) && nilV ⟨vk, vn, vs⟩))) && (btw ox 0 ((c.exits.length : Int) - 1) && (true && true))) by
        show ((decide (od = 0) && (btw oa 0 (c.vals - 1) && (decide (ob = 0) && nilV ⟨vk, vn, vs⟩))) && (btw ox 0 ((c.exits.length : Int) - 1) && (true && (insO l (fk : Int) op_).isSome))) = _
        rw [hI.out])
      have HX := Lib.hid (show exB 28 = true from rfl)
      go_wp2_with (first | ((first | (go_at_call 277; (with_reducible refine (zeroX hil hS _).mono ?_)) | (go_at_call 279; (with_reducible refine (valX hil hS _ h1 h2).mono ?_)) | (go_at_call 281; (with_reducible refine (numX hil hS _ h3 h4).mono ?_)) | (go_at_call 276; (with_reducible refine (exitX hil hS _ h6).mono ?_)) | (go_at_call 278; refine (noneX hil hS ⟨vk, vn, vs⟩).mono ?_) | (go_at_call 282; refine (goalX hil hS k _ h5 r4).mono ?_) | (go_at_call 280; (with_reducible refine (needX hil hS _).mono ?_))); rintro e w9 ⟨rfl, hS9⟩; replace hS := hS9; clear hS9 x_k f_k z_k x_o; obtain ⟨x_k, f_k, z_k⟩ := kfactsX hil hS; have x_o := hS.cell 0 rfl) | (go_at_call 275; refine (exits10 28 _).mono ?_; rintro e w' ⟨rfl, rfl⟩; rw [HX.out]))
      go_end0
      refine ⟨rfl, finX hS.drop ?_⟩
      rw [E.out]
      have key : ∀ b x n p q r : Bool, (((((b || !x) || !n) || !p) || !q) || !r) = (b || !((p && (q && (r && n))) && (x && (true && true)))) := by decide
      exact key _ _ _ _ _ _
    · have E := Lib.hid (show opB l c k ⟨29, od, oa, ob, ox, (fk : Int), op_, ⟨vk, vn, vs⟩⟩ = ((decide (od = 0) && (btw oa 1 3 && (decide (ob = 0) && nilV ⟨vk, vn, vs⟩))) && (btw ox 0 ((c.exits.length : Int) - 1) && (true && true))) by
        show ((decide (od = 0) && (btw oa 1 3 && (decide (ob = 0) && nilV ⟨vk, vn, vs⟩))) && (btw ox 0 ((c.exits.length : Int) - 1) && (true && (insO l (fk : Int) op_).isSome))) = _
        rw [hI.out])
      have HX := Lib.hid (show exB 29 = true from rfl)
      go_wp2_with (first | ((first | (go_at_call 277; (with_reducible refine (zeroX hil hS _).mono ?_)) | (go_at_call 279; (with_reducible refine (valX hil hS _ h1 h2).mono ?_)) | (go_at_call 281; (with_reducible refine (numX hil hS _ h3 h4).mono ?_)) | (go_at_call 276; (with_reducible refine (exitX hil hS _ h6).mono ?_)) | (go_at_call 278; refine (noneX hil hS ⟨vk, vn, vs⟩).mono ?_) | (go_at_call 282; refine (goalX hil hS k _ h5 r4).mono ?_) | (go_at_call 280; (with_reducible refine (needX hil hS _).mono ?_))); rintro e w9 ⟨rfl, hS9⟩; replace hS := hS9; clear hS9 x_k f_k z_k x_o; obtain ⟨x_k, f_k, z_k⟩ := kfactsX hil hS; have x_o := hS.cell 0 rfl) | (go_at_call 121; (with_reducible refine (between (r := btw oa 1 3) _ rfl).mono ?_); rintro e w' ⟨rfl, rfl⟩) | (go_at_call 275; refine (exits10 29 _).mono ?_; rintro e w' ⟨rfl, rfl⟩; rw [HX.out]))
      go_end0
      refine ⟨rfl, finX hS.drop ?_⟩
      rw [E.out]
      have key : ∀ b x n p q r : Bool, (((((b || !x) || !n) || !p) || !q) || !r) = (b || !((p && (q && (r && n))) && (x && (true && true)))) := by decide
      exact key _ _ _ _ _ _
  · have E := Lib.hid (show opB l c k ⟨op, od, oa, ob, ox, (fk : Int), op_, ⟨vk, vn, vs⟩⟩ = false by
      unfold opB
      rw [show shp op = none from if_neg hb])
    have HX := Lib.hid (show exB op = false by unfold exB; rw [show shp op = none from if_neg hb])
    have hn : ¬ (1 ≤ op ∧ op ≤ 29) := fun h => hb (btw_true.2 h)
    have m1 : (op == 1) = false := by simp; omega
    have m2 : (op == 2) = false := by simp; omega
    have m3 : (op == 3) = false := by simp; omega
    have m4 : (op == 4) = false := by simp; omega
    have m5 : (op == 5) = false := by simp; omega
    have m6 : (op == 6) = false := by simp; omega
    have m7 : (op == 7) = false := by simp; omega
    have m8 : (op == 8) = false := by simp; omega
    have m9 : (op == 9) = false := by simp; omega
    have m10 : (op == 10) = false := by simp; omega
    have m11 : (op == 11) = false := by simp; omega
    have m12 : (op == 12) = false := by simp; omega
    have m13 : (op == 13) = false := by simp; omega
    have m14 : (op == 14) = false := by simp; omega
    have m15 : (op == 15) = false := by simp; omega
    have m16 : (op == 16) = false := by simp; omega
    have m17 : (op == 17) = false := by simp; omega
    have m18 : (op == 18) = false := by simp; omega
    have m19 : (op == 19) = false := by simp; omega
    have m20 : (op == 20) = false := by simp; omega
    have m21 : (op == 21) = false := by simp; omega
    have m22 : (op == 22) = false := by simp; omega
    have m23 : (op == 23) = false := by simp; omega
    have m24 : (op == 24) = false := by simp; omega
    have m25 : (op == 25) = false := by simp; omega
    have m26 : (op == 26) = false := by simp; omega
    have m27 : (op == 27) = false := by simp; omega
    have m28 : (op == 28) = false := by simp; omega
    have m29 : (op == 29) = false := by simp; omega
    have n1 : ¬ op = 1 := by omega
    have p1 : (op != 1) = true := by simp [n1]
    have p3 : (op != 3) = true := by simp; omega
    have HN := Lib.hid hn
    clear hn hb
    go_wp2_with (first | ((first | (go_at_call 277; (with_reducible refine (zeroX hil hS _).mono ?_)) | (go_at_call 279; (with_reducible refine (valX hil hS _ h1 h2).mono ?_)) | (go_at_call 281; (with_reducible refine (numX hil hS _ h3 h4).mono ?_)) | (go_at_call 276; (with_reducible refine (exitX hil hS _ h6).mono ?_)) | (go_at_call 278; refine (noneX hil hS ⟨vk, vn, vs⟩).mono ?_) | (go_at_call 282; refine (goalX hil hS k _ h5 r4).mono ?_) | (go_at_call 280; (with_reducible refine (needX hil hS _).mono ?_))); rintro e w9 ⟨rfl, hS9⟩; replace hS := hS9; clear hS9 x_k f_k z_k x_o; obtain ⟨x_k, f_k, z_k⟩ := kfactsX hil hS; have x_o := hS.cell 0 rfl) | (go_at_call 121; (with_reducible refine (between (r := btw oa 0 6) _ rfl).mono ?_); rintro e w' ⟨rfl, rfl⟩) | (go_at_call 121; (with_reducible refine (between (r := btw ob 0 5) _ rfl).mono ?_); rintro e w' ⟨rfl, rfl⟩) | (go_at_call 121; (with_reducible refine (between (r := btw od 0 5) _ rfl).mono ?_); rintro e w' ⟨rfl, rfl⟩) | (go_at_call 121; (with_reducible refine (between (r := btw oa 1 3) _ rfl).mono ?_); rintro e w' ⟨rfl, rfl⟩) | (go_at_call 275; refine (exits10 op _).mono ?_; rintro e w' ⟨rfl, rfl⟩; rw [HX.out]))
    all_goals first | (go_end0; refine ⟨rfl, ?_⟩; rw [E.out, Bool.not_false, Bool.or_true]; exact badX hil hS) | (exfalso; have := HN.out; omega) | (exfalso; simp_all only [p1, p3]; omega) | (trace_state; fail)
end Go.Proofs.YthinhlcfpaaldaaGreat.Dat
