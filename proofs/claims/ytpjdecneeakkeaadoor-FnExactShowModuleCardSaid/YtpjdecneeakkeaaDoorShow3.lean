/- spec.ShowModule, walked. -/
import Derived.Test.YtpjdecneeakkeaaDoorShow
namespace Go.Proofs.YtpjdecneeakkeaaDoor.Dat
open Go Go.RowKit Go.Proofs.YtpjdecneeakkeaaDoor.Mem
set_option linter.unusedVariables false
set_option linter.unusedSimpArgs false
theorem textLine_txt (s : ByteArray) : Value.string (((⟨#[116, 101, 120, 116, 32, 34]⟩ : ByteArray) ++ s) ++ (⟨#[34, 10]⟩ : ByteArray)) = .string (txt (textLine s)) := by
  congr 1
theorem funcHead_txt (x : DFunc) : Value.string (((((⟨#[102, 117, 110, 99, 32]⟩ : ByteArray) ++ txt (Lib.itoa x.params)) ++ (⟨#[32]⟩ : ByteArray)) ++ txt (Lib.itoa x.locals)) ++ (⟨#[10]⟩ : ByteArray)) = .string (txt (funcHead x)) := by
  congr 1
theorem insLine_txt (x : DIns) : Value.string (((⟨#[32, 32]⟩ : ByteArray) ++ txt (insTextL x.op x.a)) ++ (⟨#[10]⟩ : ByteArray)) = .string (txt (insLine x)) := by
  congr 1
set_option maxHeartbeats 16000000 in
set_option maxRecDepth 100000 in
theorem show3 (A B : Option Addr) (c d : Nat) (t : List ByteArray) (l : List DFunc) (w : World) (h : HasMod A B t l w) (hva : ∀ x ∈ l, ∀ y ∈ x.code, I64 y.a) {X : List UInt8} (hX : showL t l = X) :
    Calls Tryd.prog 27 #[.agg #[.slice A t.length c, .slice B l.length d]] w fun e w' => e = .returned (.string (txt X)) ∧ Below w.heap.size w w' := by
  have hS := (St.start w).made (.cells #[.slice A t.length c, .slice B l.length d] 61 (0, 0))
  subst hX
  cases hm : modB t l
  · have E := Lib.hid (show showL t l = [] by unfold showL; rw [hm]; rfl)
    have HM := Lib.hid hm
    clear hm
    go_enter Tryd.func27, Tryd.ntmps27
    go_wp2_with fail
    refine (modOk012 A B c d t l _ (h.below hS.bel) HM.out).mono ?_
    rintro e w1 ⟨rfl, hb⟩
    go_wp2
    go_ret
    exact ⟨by rw [E.out]; rfl, (hS.step hb).bel⟩
  have E := Lib.hid (show showL t l = t.flatMap textLine ++ l.flatMap funcLines by unfold showL; rw [hm, if_pos rfl])
  have HS := Lib.hid (small_of hm)
  have HM := Lib.hid hm
  have htl : t.length ≤ 20 := HS.out.tl
  have hll : l.length ≤ 12 := HS.out.ll
  have HL0 := Lib.hid (flatB_len (f := textLine) (c := 68) (l := t) (fun s hs => textLine_len (HS.out.ts s hs)))
  clear hm
  go_enter Tryd.func27, Tryd.ntmps27
  go_wp2_with fail
  refine (modOk012 A B c d t l _ (h.below hS.bel) HM.out).mono ?_
  rintro e w1 ⟨rfl, hb⟩
  replace hS := hS.step hb
  clear hb
  have hA0 := Acc.empty w1 w1.heap.size rfl
  go_wp2
  go_loopw [3, 4] (fun v i wr => ∃ k : Nat, k ≤ t.length ∧ i = .int .i64 k ∧ Acc w1.heap.size v ((t.take k).flatMap textLine) wr ∧ Below w1.heap.size w1 wr) (fun _ i _ => t.length - (intOf i).toNat)
  case atStart => exact ⟨0, by omega, rfl, hA0, bl_alloc (Below.refl _ _) _⟩
  case round =>
    clear hA0
    obtain ⟨k, hk, rfl, hA, hB⟩ := hrel
    have hSr := hS.step hB
    have x0 := hSr.cell 0 rfl
    by_cases hlt : k < t.length
    · obtain ⟨s, hs⟩ := get_exU t k hlt
      obtain ⟨ad, rfl, q0⟩ := (h.ht.below hSr.bel).one k s hs
      have hs60 := HS.out.ts s (List.mem_of_getElem? hs)
      have HN := Lib.hid (flatB_step (f := textLine) hs)
      have h1 := flatB_len (f := textLine) (c := 68) (l := t.take k) (fun s hs => textLine_len (HS.out.ts s (List.mem_of_mem_take hs)))
      have h2 := textLine_len hs60
      have h3 : (t.take k).length ≤ 20 := by rw [List.length_take]; omega
      have HB := Lib.hid (show ((t.take k).flatMap textLine).length + (textLine s).length ≤ 1000000000 by omega)
      clear hs h1 h2 h3
      go_wp2_with (at_builtin; refine wp_appStr rfl _ _ rfl rfl hA (textLine s) (textLine_txt s) HB.out hB.size ?_; rintro v' w' hA' hB' hK')
      go_roundw
      case rel => exact ⟨k + 1, by omega, by go_num, by rw [HN.out]; exact hA', hB.trans hB'⟩
      case measure => simp [intOf]; omega
    · obtain rfl : k = t.length := by omega
      rw [List.take_length] at hA
      clear hlt hk
      obtain ⟨L0, hL0⟩ : ∃ L0, t.flatMap textLine = L0 := ⟨_, rfl⟩
      have E2 := Lib.hid (show showL t l = L0 ++ l.flatMap funcLines by rw [E.out, hL0])
      have HL1 := Lib.hid (show L0.length ≤ 2000 by rw [← hL0]; have := HL0.out; omega)
      rw [hL0] at hA
      clear hL0
      go_wp2
      go_loopw [3, 5] (fun v i wr => ∃ k : Nat, k ≤ l.length ∧ i = .int .i64 k ∧ Acc w1.heap.size v (L0 ++ (l.take k).flatMap funcLines) wr ∧ Below w1.heap.size w1 wr) (fun _ i _ => l.length - (intOf i).toNat)
      case atStart => exact ⟨0, by omega, rfl, by rw [List.take_zero, List.flatMap_nil, List.append_nil]; exact hA, hB⟩
      case round =>
        clear hA hB hSr x0
        obtain ⟨k, hk, rfl, hA, hB⟩ := hrel
        have hSr := hS.step hB
        have x0 := hSr.cell 0 rfl
        by_cases hlt : k < l.length
        · obtain ⟨x, hx⟩ := get_exU l k hlt
          obtain ⟨ad, A2, c2, rfl, q0w, q1w, q2w, hl2, hr2⟩ := kFunc_at h.hr k x hx
          have q0 := kept hSr.bel q0w
          have q1 := kept hSr.bel q1w
          have q2 := kept hSr.bel q2w
          clear q0w q1w q2w
          obtain ⟨p0, p1, p2, p3, p4⟩ := HS.out.pl x (List.mem_of_getElem? hx)
          have HVA := Lib.hid (hva x (List.mem_of_getElem? hx))
          have HN := Lib.hid (flatB_step (f := funcLines) hx)
          have hIp : I64 x.params := ⟨by omega, by omega⟩
          have hIl : I64 x.locals := ⟨by omega, by omega⟩
          have HB := Lib.hid (show (L0 ++ (l.take k).flatMap funcLines).length ≤ 60000 from by
            have h1 := flatB_len (f := funcLines) (c := 4000) (l := l.take k) (fun y hy => by
              have hy' := List.mem_of_mem_take hy
              have h9 := HS.out.pl y hy'
              exact funcLines_len ⟨by omega, by omega⟩ ⟨by omega, by omega⟩ (hva y hy') (by omega))
            have h3 : (l.take k).length ≤ 12 := by rw [List.length_take]; omega
            have := HL1.out
            rw [List.length_append]
            omega)
          have HH := Lib.hid (funcHead_len hIp hIl)
          have z1 := Lib.itoa_length_le x.params hIp.1 hIp.2
          have z2 := Lib.itoa_length_le x.locals hIl.1 hIl.2
          have hT := ((St.start wr).made (.cells #[.int .i64 x.params, .int .i64 x.locals, .slice A2 x.code.length c2] 107 (0, 0))).drew
          clear hx
          go_wp2
          have hs1 : (9223372036854775807 < 5 + (txt (Lib.itoa x.params)).size) = False := eq_false (by rw [txt_size]; omega)
          have hs2 : (9223372036854775807 < 5 + (txt (Lib.itoa x.params)).size + 1) = False := eq_false (by rw [txt_size]; omega)
          have hs3 : (9223372036854775807 < 5 + (txt (Lib.itoa x.params)).size + 1 + (txt (Lib.itoa x.locals)).size) = False := eq_false (by rw [txt_size, txt_size]; omega)
          have hs4 : (9223372036854775807 < 5 + (txt (Lib.itoa x.params)).size + 1 + (txt (Lib.itoa x.locals)).size + 1) = False := eq_false (by rw [txt_size, txt_size]; omega)
          refine wp_region_held_drew (S := (fun w' => w'.cell? ⟨wr.heap.size, 0, none⟩ = some (.int .i64 x.params) ∧ w'.cell? ⟨wr.heap.size, 1, none⟩ = some (.int .i64 x.locals))) (by kernel_rfl) (⟨hT.cell 0 rfl 0, hT.cell 0 rfl 1⟩) (fun hHeld => ?_)
          first | (refine regW 0 (v := ?_) rfl (by rfl) (by kernel_rfl) (fun _ _ _ h => h) ?_ (by assumption) ?_; rotate_left; focus (intro w9 hSw; (try dsimp only at hSw); go_simp; (try with_reducible rfl); done)) | refine regU 0 rfl (by rfl) (by kernel_rfl) (fun _ _ _ h => h) (by assumption) ?_ | refine regN 0 rfl (by rfl) (by kernel_rfl) (by assumption) ?_
          try simp only [Act.put, List.setIfInBounds_toArray, List.set_cons_zero, List.set_cons_succ]
          first | (refine regW 1 (v := ?_) rfl (by rfl) (by kernel_rfl) (fun _ _ _ h => h) ?_ (by assumption) ?_; rotate_left; focus (intro w9 hSw; (try dsimp only at hSw); go_simp; (try with_reducible rfl); done)) | refine regU 1 rfl (by rfl) (by kernel_rfl) (fun _ _ _ h => h) (by assumption) ?_ | refine regN 1 rfl (by rfl) (by kernel_rfl) (by assumption) ?_
          try simp only [Act.put, List.setIfInBounds_toArray, List.set_cons_zero, List.set_cons_succ]
          first | (refine regW 2 (v := ?_) rfl (by rfl) (by kernel_rfl) (fun _ _ _ h => h) ?_ (by assumption) ?_; rotate_left; focus (intro w9 hSw; (try dsimp only at hSw); go_simp; (try with_reducible rfl); done)) | refine regU 2 rfl (by rfl) (by kernel_rfl) (fun _ _ _ h => h) (by assumption) ?_ | refine regN 2 rfl (by rfl) (by kernel_rfl) (by assumption) ?_
          try simp only [Act.put, List.setIfInBounds_toArray, List.set_cons_zero, List.set_cons_succ]
          first | (refine regW 6 (v := ?_) rfl (by rfl) (by kernel_rfl) (fun _ _ _ h => h) ?_ (by assumption) ?_; rotate_left; focus (intro w9 hSw; (try dsimp only at hSw); go_simp; (try with_reducible rfl); done)) | refine regU 6 rfl (by rfl) (by kernel_rfl) (fun _ _ _ h => h) (by assumption) ?_ | refine regN 6 rfl (by rfl) (by kernel_rfl) (by assumption) ?_
          try simp only [Act.put, List.setIfInBounds_toArray, List.set_cons_zero, List.set_cons_succ]
          first | (refine regW 7 (v := ?_) rfl (by rfl) (by kernel_rfl) (fun _ _ _ h => h) ?_ (by assumption) ?_; rotate_left; focus (intro w9 hSw; (try dsimp only at hSw); go_simp; (try with_reducible rfl); done)) | refine regU 7 rfl (by rfl) (by kernel_rfl) (fun _ _ _ h => h) (by assumption) ?_ | refine regN 7 rfl (by rfl) (by kernel_rfl) (by assumption) ?_
          try simp only [Act.put, List.setIfInBounds_toArray, List.set_cons_zero, List.set_cons_succ]
          refine regC 3 rfl (by kernel_rfl) (by rfl) (fun Kq hKq => ?_)
          go_simp
          (with_reducible refine (dig3 x.params hIp.lo hIp.hi _).mono ?_)
          rintro e w3 ⟨rfl, hb3⟩; have hT3 := hT.step hb3
          try go_wp2_with fail
          refine hKq.out _ _ (⟨hT3.cell 0 rfl 0, hT3.cell 0 rfl 1⟩) (fun hHeld => ?_)
          clear hKq Kq
          (try simp only [Act.put, List.setIfInBounds_toArray, List.set_cons_zero, List.set_cons_succ])
          first | (refine regW 4 (v := ?_) rfl (by rfl) (by kernel_rfl) (fun _ _ _ h => h) ?_ (by assumption) ?_; rotate_left; focus (intro w9 hSw; (try dsimp only at hSw); go_simp; (try with_reducible rfl); done)) | refine regU 4 rfl (by rfl) (by kernel_rfl) (fun _ _ _ h => h) (by assumption) ?_ | refine regN 4 rfl (by rfl) (by kernel_rfl) (by assumption) ?_
          try simp only [Act.put, List.setIfInBounds_toArray, List.set_cons_zero, List.set_cons_succ]
          first | (refine regW 5 (v := ?_) rfl (by rfl) (by kernel_rfl) (fun _ _ _ h => h) ?_ (by assumption) ?_; rotate_left; focus (intro w9 hSw; (try dsimp only at hSw); go_simp; (try with_reducible rfl); done)) | refine regU 5 rfl (by rfl) (by kernel_rfl) (fun _ _ _ h => h) (by assumption) ?_ | refine regN 5 rfl (by rfl) (by kernel_rfl) (by assumption) ?_
          try simp only [Act.put, List.setIfInBounds_toArray, List.set_cons_zero, List.set_cons_succ]
          refine regC 8 rfl (by kernel_rfl) (by rfl) (fun Kq hKq => ?_)
          go_simp
          (with_reducible refine (dig3 x.locals hIl.lo hIl.hi _).mono ?_)
          rintro e w4 ⟨rfl, hb4⟩; have hT4 := hT3.step hb4
          try go_wp2_with fail
          refine hKq.out _ _ (⟨hT4.cell 0 rfl 0, hT4.cell 0 rfl 1⟩) (fun hHeld => ?_)
          clear hKq Kq
          (try simp only [Act.put, List.setIfInBounds_toArray, List.set_cons_zero, List.set_cons_succ])
          first | (refine regW 9 (v := ?_) rfl (by rfl) (by kernel_rfl) (fun _ _ _ h => h) ?_ (by assumption) ?_; rotate_left; focus (intro w9 hSw; (try dsimp only at hSw); go_simp; (try with_reducible rfl); done)) | refine regU 9 rfl (by rfl) (by kernel_rfl) (fun _ _ _ h => h) (by assumption) ?_ | refine regN 9 rfl (by rfl) (by kernel_rfl) (by assumption) ?_
          try simp only [Act.put, List.setIfInBounds_toArray, List.set_cons_zero, List.set_cons_succ]
          first | (refine regW 10 (v := ?_) rfl (by rfl) (by kernel_rfl) (fun _ _ _ h => h) ?_ (by assumption) ?_; rotate_left; focus (intro w9 hSw; (try dsimp only at hSw); go_simp; (try with_reducible rfl); done)) | refine regU 10 rfl (by rfl) (by kernel_rfl) (fun _ _ _ h => h) (by assumption) ?_ | refine regN 10 rfl (by rfl) (by kernel_rfl) (by assumption) ?_
          try simp only [Act.put, List.setIfInBounds_toArray, List.set_cons_zero, List.set_cons_succ]
          refine regC 11 rfl (by kernel_rfl) (by rfl) (fun Kq hKq => ?_)
          refine op_appStr _ _ rfl rfl (hA.below hT4.bel) (funcHead x) (funcHead_txt x) (by have := HB.out; have := HH.out; omega) (Nat.le_trans hB.size hT4.bel.size) ?_
          rintro v5 w5 hA5 hB5 hK5
          have hg5 := hK5 wr.heap.size _ (hT4.get 0 rfl) (by intro c fz he; cases he)
          refine hKq.out _ _ (⟨blk_cell hg5 0, blk_cell hg5 1⟩) (fun hHeld => ?_)
          clear hKq Kq
          try simp only [Act.put, List.setIfInBounds_toArray, List.set_cons_zero, List.set_cons_succ]
          first | (refine regW 12 (v := ?_) rfl (by rfl) (by kernel_rfl) (fun _ _ _ h => h) ?_ (by assumption) ?_; rotate_left; focus (intro w9 hSw; (try dsimp only at hSw); go_simp; (try with_reducible rfl); done)) | refine regU 12 rfl (by rfl) (by kernel_rfl) (fun _ _ _ h => h) (by assumption) ?_ | refine regN 12 rfl (by rfl) (by kernel_rfl) (by assumption) ?_
          try simp only [Act.put, List.setIfInBounds_toArray, List.set_cons_zero, List.set_cons_succ]
          refine wpAnyH_done (by kernel_rfl) ?_ _
          clear hHeld hs1 hs2 hs3 hs4
          have hBw5 : Below w1.heap.size w1 w5 := (hB.trans (hT4.bel.mono hB.size)).trans hB5
          obtain ⟨g, hg⟩ : ∃ g, wr.heap.size = g := ⟨_, rfl⟩
          rw [hg] at hg5 ⊢
          clear hT hT3 hT4 hb3 hb4 hg q0 q1 q2 x0 hA hB hK5 hB5
          have x5 := blk_cell hg5
          go_wp2
          go_loopw [3, 7] (fun v i wr => ∃ j : Nat, j ≤ x.code.length ∧ i = .int .i64 j ∧ Acc w1.heap.size v (((L0 ++ (l.take k).flatMap funcLines) ++ funcHead x) ++ (x.code.take j).flatMap insLine) wr ∧ Below w1.heap.size w1 wr ∧ wr.heap[g]? = some (.cells #[.int .i64 x.params, .int .i64 x.locals, .slice A2 x.code.length c2] 107 (0, 0))) (fun _ i _ => x.code.length - (intOf i).toNat)
          case atStart => exact ⟨0, by omega, rfl, by rw [List.take_zero, List.flatMap_nil, List.append_nil]; exact hA5, hBw5, hg5⟩
          case round =>
            clear hA5 hBw5 hg5 x5 hSr
            obtain ⟨j, hj, rfl, hA, hB, hg⟩ := hrel
            have x5 := blk_cell hg
            by_cases hlt2 : j < x.code.length
            · obtain ⟨y, hy⟩ := get_exU x.code j hlt2
              have hr2' := hr2.below (hS.step hB).bel
              obtain ⟨ad2, rfl, r0, r1⟩ := kIns_at hr2' j y hy
              have hIy := HVA.out y (List.mem_of_getElem? hy)
              have HN2 := Lib.hid (flatB_step (f := insLine) hy)
              have HI := Lib.hid (insLine_len hIy)
              have HC := Lib.hid (flatB_len (f := insLine) (c := 31) (l := x.code.take j) (fun z hz => insLine_len (HVA.out z (List.mem_of_mem_take hz))))
              have hcj : (x.code.take j).length ≤ 120 := by rw [List.length_take]; omega
              have HB2 := Lib.hid (show (((L0 ++ (l.take k).flatMap funcLines) ++ funcHead x) ++ (x.code.take j).flatMap insLine).length + (insLine y).length ≤ 1000000000 by
                have := HB.out
                have := HH.out
                have := HI.out
                have := HC.out
                rw [List.length_append, List.length_append]
                omega)
              have zi := insTextL_len y.op y.a hIy
              have yi := txt_size (insTextL y.op y.a)
              clear hy
              go_wp2_with fail
              refine (insText3 y.op y.a _ hIy.lo hIy.hi).mono ?_
              rintro e w6 ⟨rfl, hb6⟩
              go_wp2_with (at_builtin; refine wp_appStr rfl _ _ rfl rfl (hA.below hb6) (insLine y) (insLine_txt y) HB2.out (Nat.le_trans hB.size hb6.size) ?_; rintro v' w' hA' hB' hK')
              go_roundw
              case rel => exact ⟨j + 1, by omega, by go_num, by rw [HN2.out, ← List.append_assoc]; exact hA', (hB.trans (hb6.mono hB.size)).trans hB', hK' g _ ((hb6.block g (blk_lt hg)).trans hg) (by intro c fz he; cases he)⟩
              case measure => simp [intOf]; omega
            · obtain rfl : j = x.code.length := by omega
              rw [List.take_length] at hA
              go_wp2
              go_roundw
              case rel => exact ⟨k + 1, by omega, by go_num, by rw [HN.out]; unfold funcLines; rw [← List.append_assoc, ← List.append_assoc]; exact hA, hB⟩
              case measure => simp [intOf]; omega
        · obtain rfl : k = l.length := by omega
          rw [List.take_length] at hA
          have hcv := run_accStr hA
          go_wp2
          go_ret
          exact ⟨by rw [E2.out]; rfl, (hS.step hB).bel⟩
end Go.Proofs.YtpjdecneeakkeaaDoor.Dat
