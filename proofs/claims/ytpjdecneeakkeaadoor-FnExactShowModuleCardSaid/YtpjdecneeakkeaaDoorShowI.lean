/- impl.ShowModule, walked. -/
import Derived.Test.YtpjdecneeakkeaaDoorShow3
namespace Go.Proofs.YtpjdecneeakkeaaDoor.Dat
open Go Go.RowKit Go.Proofs.YtpjdecneeakkeaaDoor.Mem
set_option linter.unusedVariables false
set_option linter.unusedSimpArgs false
theorem funcHead_txtI (x : DFunc) : Value.string (((⟨#[102, 117, 110, 99, 32]⟩ : ByteArray) ++ txt (Lib.join (itoas [x.params, x.locals]) blank)) ++ (⟨#[10]⟩ : ByteArray)) = .string (txt (funcHead x)) := by
  have e : Lib.join (itoas [x.params, x.locals]) blank = (Lib.itoa x.params ++ [32]) ++ Lib.itoa x.locals := by
    unfold itoas
    simp only [List.map_cons, List.map_nil]
    rw [join2]
  rw [e, ← funcHead_txt]
  congr 1
theorem Bld.lt {B b : Nat} {l : List UInt8} {W : World} (h : Bld B b l W) : b < W.heap.size := h.elim (fun x => x.lt) (fun x => x.lt)
theorem writeStr' (B b : Nat) (l s : List UInt8) (w : World) (v : Value) (hv : v = .string (txt s)) (h : Bld B b l w) (hlen : l.length + s.length ≤ 1000000000) (hB : B ≤ w.heap.size) :
    Calls Tryd.prog 49 #[.pointer (some ⟨b, 0, none⟩), v] w fun e w' => e = .returned (.tuple #[.int .i64 (txt s).size, .nilIface]) ∧ Bld B b (l ++ s) w' ∧ Below B w w' ∧ (∀ (g : Nat) (o : Obj), w.heap[g]? = some o → g ≠ b → (∀ c fz, o ≠ Obj.cells c 5 fz) → w'.heap[g]? = some o) := by
  subst hv
  exact writeStr B b l s w h hlen hB
set_option maxHeartbeats 16000000 in
set_option maxRecDepth 100000 in
theorem showI (A B : Option Addr) (c d : Nat) (t : List ByteArray) (l : List DFunc) (w : World) (h : HasMod A B t l w) (hva : ∀ x ∈ l, ∀ y ∈ x.code, I64 y.a) (htab : Tab w) (hwords : Words w) {X : List UInt8} (hX : showL t l = X) :
    Calls Tryd.prog 29 #[.agg #[.slice A t.length c, .slice B l.length d]] w fun e w' => e = .returned (.string (txt X)) ∧ Below w.heap.size w w' := by
  have hS := (St.start w).made (.cells #[.slice A t.length c, .slice B l.length d] 61 (0, 0))
  subst hX
  cases hm : modB t l
  · have E := Lib.hid (show showL t l = [] by unfold showL; rw [hm]; rfl)
    have HM := Lib.hid hm
    clear hm
    go_enter Tryd.func29, Tryd.ntmps29
    go_wp2_with fail
    refine (modOkI2 A B c d t l _ (h.below hS.bel) HM.out).mono ?_
    rintro e w1 ⟨rfl, hb⟩
    go_wp2
    go_ret
    exact ⟨by rw [E.out]; rfl, (hS.step hb).bel⟩
  have E := Lib.hid (show showL t l = t.flatMap textLine ++ l.flatMap funcLines by unfold showL; rw [hm, if_pos rfl])
  have HS := Lib.hid (small_of hm)
  have HM := Lib.hid hm
  have htl : t.length ≤ 20 := HS.out.tl
  have hll : l.length ≤ 12 := HS.out.ll
  have HL0 := Lib.hid (flatB_len (f := textLine) (c := 68) (l := t) (fun s hs => textLine_len (HS.out.ts s hs)))
  clear hm
  go_enter Tryd.func29, Tryd.ntmps29
  go_wp2_with fail
  refine (modOkI2 A B c d t l _ (h.below hS.bel) HM.out).mono ?_
  rintro e w1 ⟨rfl, hb⟩
  replace hS := hS.step hb
  clear hb
  have x0 := (hS.al (.cells #[.pointer none, .slice none 0 0] 95)).cell 0 rfl
  have hA0 := Bld.fresh w1
  go_wp2
  go_loopw [16] (fun i wr => ∃ k : Nat, k ≤ t.length ∧ i = .int .i64 k ∧ Bld w1.heap.size w1.heap.size ((t.take k).flatMap textLine) wr ∧ Below w1.heap.size w1 wr) (fun i _ => t.length - (intOf i).toNat)
  case atStart => exact ⟨0, by omega, rfl, hA0, bl_alloc (Below.refl _ _) _⟩
  case round =>
    clear hA0 x0
    obtain ⟨k, hk, rfl, hA, hB⟩ := hrel
    have hSr := hS.step hB
    have x0 := hSr.cell 0 rfl
    by_cases hlt : k < t.length
    · obtain ⟨s, hs⟩ := get_exU t k hlt
      obtain ⟨ad, rfl, q0⟩ := (h.ht.below hSr.bel).one k s hs
      have hs60 := HS.out.ts s (List.mem_of_getElem? hs)
      have HN := Lib.hid (flatB_step (f := textLine) hs)
      have h1 := flatB_len (f := textLine) (c := 68) (l := t.take k) (fun s hs => textLine_len (HS.out.ts s (List.mem_of_mem_take hs)))
      have h2 := textLine_len hs60
      have h3 : (t.take k).length ≤ 20 := by rw [List.length_take]; omega
      have HB := Lib.hid (show ((t.take k).flatMap textLine).length + (textLine s).length ≤ 1000000000 by omega)
      clear hs h1 h2 h3
      go_wp2_with fail
      refine (writeStr' _ _ _ (textLine s) _ _ (textLine_txt s) hA HB.out hB.size).mono ?_
      rintro e w' ⟨rfl, hA', hB', hK'⟩
      go_wp2
      go_roundw
      case rel => exact ⟨k + 1, by omega, by go_num, by rw [HN.out]; exact hA', hB.trans hB'⟩
      case measure => simp [intOf]; omega
    · obtain rfl : k = t.length := by omega
      rw [List.take_length] at hA
      clear hlt hk
      obtain ⟨L0, hL0⟩ : ∃ L0, t.flatMap textLine = L0 := ⟨_, rfl⟩
      have E2 := Lib.hid (show showL t l = L0 ++ l.flatMap funcLines by rw [E.out, hL0])
      have HL1 := Lib.hid (show L0.length ≤ 2000 by rw [← hL0]; have := HL0.out; omega)
      rw [hL0] at hA
      clear hL0
      go_wp2
      go_loopw [28] (fun i wr => ∃ k : Nat, k ≤ l.length ∧ i = .int .i64 k ∧ Bld w1.heap.size w1.heap.size (L0 ++ (l.take k).flatMap funcLines) wr ∧ Below w1.heap.size w1 wr) (fun i _ => l.length - (intOf i).toNat)
      case atStart => exact ⟨0, by omega, rfl, by rw [List.take_zero, List.flatMap_nil, List.append_nil]; exact hA, hB⟩
      case round =>
        clear hA hB hSr x0
        obtain ⟨k, hk, rfl, hA, hB⟩ := hrel
        have hSr := hS.step hB
        have x0 := hSr.cell 0 rfl
        by_cases hlt : k < l.length
        · obtain ⟨x, hx⟩ := get_exU l k hlt
          obtain ⟨ad, A2, c2, rfl, q0w, q1w, q2w, hl2, hr2⟩ := kFunc_at h.hr k x hx
          have q0 := kept hSr.bel q0w
          have q1 := kept hSr.bel q1w
          have q2 := kept hSr.bel q2w
          clear q0w q1w q2w
          obtain ⟨p0, p1, p2, p3, p4⟩ := HS.out.pl x (List.mem_of_getElem? hx)
          have HVA := Lib.hid (hva x (List.mem_of_getElem? hx))
          have HN := Lib.hid (flatB_step (f := funcLines) hx)
          have hIp : I64 x.params := ⟨by omega, by omega⟩
          have hIl : I64 x.locals := ⟨by omega, by omega⟩
          have HB := Lib.hid (show (L0 ++ (l.take k).flatMap funcLines).length ≤ 60000 from by
            have h1 := flatB_len (f := funcLines) (c := 4000) (l := l.take k) (fun y hy => by
              have hy' := List.mem_of_mem_take hy
              have h9 := HS.out.pl y hy'
              exact funcLines_len ⟨by omega, by omega⟩ ⟨by omega, by omega⟩ (hva y hy') (by omega))
            have h3 : (l.take k).length ≤ 12 := by rw [List.length_take]; omega
            have := HL1.out
            rw [List.length_append]
            omega)
          have HH := Lib.hid (funcHead_len hIp hIl)
          have hz : ∀ z ∈ [x.params, x.locals], -9223372036854775808 ≤ z ∧ z ≤ 9223372036854775807 := by
            intro z hz
            simp at hz
            rcases hz with rfl | rfl <;> omega
          have hL := itoas_len [x.params, x.locals] hz
          have hzz := txt_size (Lib.join (itoas [x.params, x.locals]) blank)
          simp only [List.length_cons, List.length_nil] at hL
          have hT0 := (St.start wr).made (.cells #[.int .i64 x.params, .int .i64 x.locals, .slice A2 x.code.length c2] 107 (0, 0))
          have hT := hT0.litAt (enc := Value.int .i64) (h1 := fun _ => rfl) (e := 3) [x.params, x.locals] #[.int .i64 x.params, .int .i64 x.locals] rfl (wr.heap.size + 1) (by simp) 2 rfl (by simp)
          clear hx
          go_wp2_with fail
          refine (joinedC _ 2 [x.params, x.locals] _ (rowO hT 0 rfl) hz (by simp) (by simp) ((htab.below hSr.bel).below hT.bel)).mono ?_
          rintro e w3 ⟨rfl, hb3⟩
          have hT3 := hT.step hb3
          go_wp2_with fail
          refine (writeStr' _ _ _ (funcHead x) _ _ (funcHead_txtI x) (hA.below hT3.bel) (by have := HB.out; have := HH.out; omega) (Nat.le_trans hB.size hT3.bel.size)).mono ?_
          rintro e w5 ⟨rfl, hA5, hB5, hK5⟩
          have hltb := Bld.lt hA
          have hg5 := hK5 wr.heap.size _ (hT3.get 1 rfl) (by omega) (by intro c fz he; cases he)
          have hBw5 : Below w1.heap.size w1 w5 := (hB.trans (hT3.bel.mono hB.size)).trans hB5
          have x5 := blk_cell hg5
          clear hT0 hT hT3 hb3 q0 q1 q2 x0 hA hB hK5 hB5 hg5
          go_wp2
          clear x5
          go_loopw [44] (fun i wr => ∃ j : Nat, j ≤ x.code.length ∧ i = .int .i64 j ∧ Bld w1.heap.size w1.heap.size (((L0 ++ (l.take k).flatMap funcLines) ++ funcHead x) ++ (x.code.take j).flatMap insLine) wr ∧ Below w1.heap.size w1 wr) (fun i _ => x.code.length - (intOf i).toNat)
          case atStart => exact ⟨0, by omega, rfl, by rw [List.take_zero, List.flatMap_nil, List.append_nil]; exact hA5, hBw5⟩
          case round =>
            clear hA5 hBw5 hSr
            obtain ⟨j, hj, rfl, hA, hB⟩ := hrel
            by_cases hlt2 : j < x.code.length
            · obtain ⟨y, hy⟩ := get_exU x.code j hlt2
              have hr2' := hr2.below (hS.step hB).bel
              obtain ⟨ad2, rfl, r0, r1⟩ := kIns_at hr2' j y hy
              have hIy := HVA.out y (List.mem_of_getElem? hy)
              have HN2 := Lib.hid (flatB_step (f := insLine) hy)
              have HI := Lib.hid (insLine_len hIy)
              have HC := Lib.hid (flatB_len (f := insLine) (c := 31) (l := x.code.take j) (fun z hz => insLine_len (HVA.out z (List.mem_of_mem_take hz))))
              have hcj : (x.code.take j).length ≤ 120 := by rw [List.length_take]; omega
              have HB2 := Lib.hid (show (((L0 ++ (l.take k).flatMap funcLines) ++ funcHead x) ++ (x.code.take j).flatMap insLine).length + (insLine y).length ≤ 1000000000 by
                have := HB.out
                have := HH.out
                have := HI.out
                have := HC.out
                rw [List.length_append, List.length_append]
                omega)
              have zi := insTextL_len y.op y.a hIy
              have yi := txt_size (insTextL y.op y.a)
              have hS9 := (St.start wr).made (.cells #[.int .i64 y.op, .int .i64 y.a] 25 (0, 0))
              have hbw := (hS.step hB).bel
              clear hy
              go_wp2_with fail
              refine (insTextI y.op y.a _ hIy.lo hIy.hi ((htab.below hbw).below hS9.bel) ((hwords.below hbw).below hS9.bel)).mono ?_
              rintro e w6 ⟨rfl, hb6⟩
              have hS6 := hS9.step hb6
              go_wp2_with fail
              refine (writeStr' _ _ _ (insLine y) _ _ (insLine_txt y) (hA.below hS6.bel) HB2.out (Nat.le_trans hB.size hS6.bel.size)).mono ?_
              rintro e w7 ⟨rfl, hA', hB', hK'⟩
              go_wp2
              go_roundw
              case rel => exact ⟨j + 1, by omega, by go_num, by rw [HN2.out, ← List.append_assoc]; exact hA', (hB.trans (hS6.bel.mono hB.size)).trans hB'⟩
              case measure => simp [intOf]; omega
            · obtain rfl : j = x.code.length := by omega
              rw [List.take_length] at hA
              go_wp2
              go_roundw
              case rel => exact ⟨k + 1, by omega, by go_num, by rw [HN.out]; unfold funcLines; rw [← List.append_assoc, ← List.append_assoc]; exact hA, hB⟩
              case measure => simp [intOf]; omega
        · obtain rfl : k = l.length := by omega
          rw [List.take_length] at hA
          go_wp2_with fail
          refine (bldStr _ _ _ _ hA hB.size).mono ?_
          rintro e w3 ⟨rfl, hb3⟩
          go_wp2
          go_ret
          exact ⟨by rw [E2.out]; rfl, hSr.bel.trans (hb3.mono (by have := hS.bel.size; omega))⟩
end Go.Proofs.YtpjdecneeakkeaaDoor.Dat
