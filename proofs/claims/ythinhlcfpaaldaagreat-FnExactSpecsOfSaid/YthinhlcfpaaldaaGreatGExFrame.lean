/- The laws' own functions over ExFrame. Written by a program (recgen.py). -/
import Derived.Test.YthinhlcfpaaldaaGreatK4
import Derived.Test.YthinhlcfpaaldaaGreatGSrc
namespace Go.Proofs.YthinhlcfpaaldaaGreat.Dat
open Go Go.RowKit Go.Proofs.YthinhlcfpaaldaaGreat.Mem
set_option linter.unusedVariables false
set_option linter.unusedSimpArgs false
structure DExFrame where
  fn : Int
  pc : Int
  locals : List DSrc
  stack : List DSrc
def zExFrame : DExFrame := ⟨0, 0, [], []⟩
def kExFrame : Knd DExFrame := Knd.iso (Knd.pair (Knd.int .i64) (Knd.pair (Knd.int .i64) (Knd.pair (Knd.slice 269 kSrc) (Knd.slice 269 kSrc)))) (fun x => (x.fn, x.pc, x.locals, x.stack))
/-- What is handed in meets this. -/
def VExFrame (x : DExFrame) : Prop := (Lit.int .i64 x.fn).wf = true ∧ (Lit.int .i64 x.pc).wf = true ∧ (x.locals.length ≤ maxLen ∧ ∀ y ∈ x.locals, VSrc y) ∧ (x.stack.length ≤ maxLen ∧ ∀ y ∈ x.stack, VSrc y)
theorem kExFrame_K {w : World} {x : DExFrame} {cs : List Value} : kExFrame.K w x cs ↔ ∃ (A2 A3 : Option Addr) (c2 c3 : Nat), cs = [.int .i64 x.fn, .int .i64 x.pc, .slice A2 x.locals.length c2, .slice A3 x.stack.length c3] ∧ x.locals.length ≤ c2 ∧ kSrc.Row w A2 x.locals.length x.locals ∧ x.stack.length ≤ c3 ∧ kSrc.Row w A3 x.stack.length x.stack := by
  constructor
  · rintro ⟨_, _, rfl, rfl, ⟨_, _, rfl, rfl, ⟨_, _, rfl, ⟨A_locals, c_locals, rfl, hl_locals, hr_locals⟩, ⟨A_stack, c_stack, rfl, hl_stack, hr_stack⟩⟩⟩⟩
    exact ⟨A_locals, A_stack, c_locals, c_stack, rfl, hl_locals, hr_locals, hl_stack, hr_stack⟩
  · rintro ⟨A2, A3, c2, c3, rfl, h2, r2, h3, r3⟩
    exact ⟨[.int .i64 x.fn], [.int .i64 x.pc, .slice A2 x.locals.length c2, .slice A3 x.stack.length c3], rfl, rfl, ⟨[.int .i64 x.pc], [.slice A2 x.locals.length c2, .slice A3 x.stack.length c3], rfl, rfl, ⟨[.slice A2 x.locals.length c2], [.slice A3 x.stack.length c3], rfl, ⟨A2, c2, rfl, h2, r2⟩, ⟨A3, c3, rfl, h3, r3⟩⟩⟩⟩
theorem kExFrame_at {w : World} {A : Option Addr} {m : Nat} {xs : List DExFrame} (h : kExFrame.Row w A m xs) (i : Nat) (x : DExFrame) (hx : xs[i]? = some x) : ∃ (ad : Addr) (A2 A3 : Option Addr) (c2 c3 : Nat), A = some ad ∧ w.cell? (ad.add (i * 4)) = some (.int .i64 x.fn) ∧ w.cell? ⟨(ad.add (i * 4)).block, (ad.add (i * 4)).off + 1, none⟩ = some (.int .i64 x.pc) ∧ w.cell? ⟨(ad.add (i * 4)).block, (ad.add (i * 4)).off + 2, none⟩ = some (.slice A2 x.locals.length c2) ∧ w.cell? ⟨(ad.add (i * 4)).block, (ad.add (i * 4)).off + 3, none⟩ = some (.slice A3 x.stack.length c3) ∧ x.locals.length ≤ c2 ∧ kSrc.Row w A2 x.locals.length x.locals ∧ x.stack.length ≤ c3 ∧ kSrc.Row w A3 x.stack.length x.stack := by
  obtain ⟨ad, c, e, hK, hc0⟩ := h.get i x hx
  have hc : ∀ j u, c[j]? = some u → w.cell? (ad.add (i * 4 + j)) = some u := hc0
  obtain ⟨A2, A3, c2, c3, rfl, h2, r2, h3, r3⟩ := kExFrame_K.1 hK
  exact ⟨ad, A2, A3, c2, c3, e, hc 0 _ rfl, (by rw [← add_field _ _ 1 (by omega)]; exact hc 1 _ rfl), (by rw [← add_field _ _ 2 (by omega)]; exact hc 2 _ rfl), (by rw [← add_field _ _ 3 (by omega)]; exact hc 3 _ rfl), h2, r2, h3, r3⟩
def ctExFrame (x : DExFrame) : Nat := 2 + ctL ctSrc x.locals + ctL ctSrc x.stack
def mkExFrame (k : Int) (x : DExFrame) : DExFrame := { fn := k, pc := k + 1, locals := mkL mkSrc ctSrc (k + 1 + 1) x.locals, stack := mkL mkSrc ctSrc (k + 1 + 1 + ctL ctSrc x.locals) x.stack }
theorem kExFrame_Oi {w : World} {x : DExFrame} {cs : List Value} {F : List Nat} : kExFrame.O w x cs F ↔ ∃ (v2 v3 : Value) (F2 F3 : List Nat), cs = [.int .i64 x.fn, .int .i64 x.pc, v2, v3] ∧ F = F2 ++ F3 ∧ kSrc.Own 269 w v2 x.locals F2 ∧ kSrc.Own 269 w v3 x.stack F3 := by
  constructor
  · rintro ⟨_, _, _, _, rfl, rfl, ⟨rfl, rfl⟩, ⟨_, _, _, _, rfl, rfl, ⟨rfl, rfl⟩, ⟨_, _, _, _, rfl, rfl, ⟨v2, rfl, o2⟩, ⟨v3, rfl, o3⟩⟩⟩⟩
    exact ⟨v2, v3, _, _, rfl, by simp, o2, o3⟩
  · rintro ⟨v2, v3, F2, F3, rfl, rfl, o2, o3⟩
    have h : kExFrame.O w x [.int .i64 x.fn, .int .i64 x.pc, v2, v3] (([] ++ ([] ++ (F2 ++ F3)))) := ⟨[.int .i64 x.fn], [.int .i64 x.pc, v2, v3], [], ([] ++ (F2 ++ F3)), rfl, by simp, ⟨rfl, rfl⟩, ⟨[.int .i64 x.pc], [v2, v3], [], (F2 ++ F3), rfl, by simp, ⟨rfl, rfl⟩, ⟨[v2], [v3], F2, F3, rfl, by simp, ⟨v2, rfl, o2⟩, ⟨v3, rfl, o3⟩⟩⟩⟩
    simpa using h
def msExFrame (x : DExFrame) : Nat := sumOf msSrc x.locals + sumOf msSrc x.stack
/-- What a small measure gives. -/
def MExFrame (x : DExFrame) : Prop := (x.locals.length ≤ 1048576 ∧ ∀ y ∈ x.locals, MSrc y) ∧ (x.stack.length ≤ 1048576 ∧ ∀ y ∈ x.stack, MSrc y)
theorem MExFrame_of {x : DExFrame} (h : msExFrame x ≤ 1048576) : MExFrame x := by
  unfold msExFrame at h
  try simp only [sumOf] at h
  unfold MExFrame
  exact ⟨⟨by omega, fun y hy => by have h9 := mem_sum msSrc _ y hy; exact MSrc_of (by omega)⟩, ⟨by omega, fun y hy => by have h9 := mem_sum msSrc _ y hy; exact MSrc_of (by omega)⟩⟩
set_option maxHeartbeats 4000000 in
set_option maxRecDepth 100000 in
theorem szExFrame_c (A2 A3 : Option Addr) (c2 c3 : Nat) (x : DExFrame) (left : Int) (w : World) (r2 : kSrc.Row w A2 x.locals.length x.locals) (r3 : kSrc.Row w A3 x.stack.length x.stack) (hV : VExFrame x) (h0 : 0 ≤ left) (h1 : left ≤ 1048576) : Calls Tryz.prog 272 #[.agg #[.int .i64 x.fn, .int .i64 x.pc, .slice A2 x.locals.length c2, .slice A3 x.stack.length c3], .int .i64 left] w fun e w' => e = .returned (.int .i64 (lft (msExFrame x) left)) ∧ Below w.heap.size w w' := by
  have hS := (St.start w).made (.cells #[.int .i64 x.fn, .int .i64 x.pc, .slice A2 x.locals.length c2, .slice A3 x.stack.length c3] 337 (0, 0))
  by_cases k0 : ((sumOf msSrc x.locals : Nat) : Int) ≤ left
  rotate_left
  · skip
    have C0 := szSrcS_c A2 c2 x.locals left
    rw [lft_gt (by omega)] at C0
    have HE := Lib.hid (show (-1 : Int) = lft (msExFrame x) left by unfold msExFrame; rw [lft_gt (by omega)])
    go_enter Tryz.func272, Tryz.ntmps272
    go_wp2_with fail
    refine (C0 _ (r2.below hS.bel) hV.2.2.1.1 hV.2.2.1.2 (by omega) (by omega)).mono ?_
    rintro e w1 ⟨rfl, hb⟩
    replace hS := hS.step hb
    have xb := hS.cell 0 rfl
    have yb := hS.blt 0 rfl
    clear hb
    go_wp2
    go_ret
    exact ⟨ret_int HE.out, hS.bel⟩
  by_cases k1 : ((sumOf msSrc x.stack : Nat) : Int) ≤ left - (sumOf msSrc x.locals : Int)
  rotate_left
  · skip
    have C0 := szSrcS_c A2 c2 x.locals left
    rw [lft_le k0] at C0
    have C1 := szSrcS_c A3 c3 x.stack (left - (sumOf msSrc x.locals : Int))
    rw [lft_gt (by omega)] at C1
    have g0 : 0 ≤ left - (sumOf msSrc x.locals : Int) := by omega
    have HE := Lib.hid (show (-1 : Int) = lft (msExFrame x) left by unfold msExFrame; rw [lft_gt (by omega)])
    go_enter Tryz.func272, Tryz.ntmps272
    go_wp2_with fail
    refine (C0 _ (r2.below hS.bel) hV.2.2.1.1 hV.2.2.1.2 (by omega) (by omega)).mono ?_
    rintro e w1 ⟨rfl, hb⟩
    replace hS := hS.step hb
    have xb := hS.cell 0 rfl
    have yb := hS.blt 0 rfl
    clear hb
    go_wp2_with fail
    refine (C1 _ (r3.below hS.bel) hV.2.2.2.1 hV.2.2.2.2 (by omega) (by omega)).mono ?_
    rintro e w2 ⟨rfl, hb⟩
    replace hS := hS.step hb
    have xb := hS.cell 0 rfl
    have yb := hS.blt 0 rfl
    clear hb
    go_wp2
    go_ret
    exact ⟨ret_int HE.out, hS.bel⟩
  have C0 := szSrcS_c A2 c2 x.locals left
  rw [lft_le k0] at C0
  have C1 := szSrcS_c A3 c3 x.stack (left - (sumOf msSrc x.locals : Int))
  rw [lft_le k1] at C1
  have g0 : 0 ≤ left - (sumOf msSrc x.locals : Int) := by omega
  have g1 : 0 ≤ left - (sumOf msSrc x.locals : Int) - (sumOf msSrc x.stack : Int) := by omega
  have HE := Lib.hid (show left - (sumOf msSrc x.locals : Int) - (sumOf msSrc x.stack : Int) = lft (msExFrame x) left by unfold msExFrame; rw [lft_le (by omega)]; omega)
  go_enter Tryz.func272, Tryz.ntmps272
  go_wp2_with fail
  refine (C0 _ (r2.below hS.bel) hV.2.2.1.1 hV.2.2.1.2 (by omega) (by omega)).mono ?_
  rintro e w1 ⟨rfl, hb⟩
  replace hS := hS.step hb
  have xb := hS.cell 0 rfl
  have yb := hS.blt 0 rfl
  clear hb
  go_wp2_with fail
  refine (C1 _ (r3.below hS.bel) hV.2.2.2.1 hV.2.2.2.2 (by omega) (by omega)).mono ?_
  rintro e w2 ⟨rfl, hb⟩
  replace hS := hS.step hb
  have xb := hS.cell 0 rfl
  have yb := hS.blt 0 rfl
  clear hb
  go_wp2
  go_ret
  exact ⟨ret_int HE.out, hS.bel⟩
set_option maxHeartbeats 4000000 in
set_option maxRecDepth 100000 in
theorem szExFrameS_c (A : Option Addr) (c : Nat) (l : List DExFrame) (left : Int) (w : World) (hr : kExFrame.Row w A l.length l) (hm : l.length ≤ maxLen) (hv : ∀ x ∈ l, VExFrame x) (h0 : 0 ≤ left) (h1 : left ≤ 1048576) : Calls Tryz.prog 206 #[.slice A l.length c, .int .i64 left] w fun e w' => e = .returned (.int .i64 (lft (sumOf msExFrame l) left)) ∧ Below w.heap.size w w' := by
  unfold maxLen at hm
  by_cases h : (l.length : Int) ≤ left
  · have h2 : 0 ≤ left - (l.length : Int) := by omega
    go_enter Tryz.func206, Tryz.ntmps206
    go_wp2
    go_loopw [1, 5] (fun u i wr => ∃ k s : Nat, k ≤ l.length ∧ i = .int .i64 k ∧ Hid (s = ((l.take k).map msExFrame).sum) ∧ u = .int .i64 (left - l.length - s) ∧ 0 ≤ left - l.length - s ∧ Below w.heap.size w wr) (fun _ i _ => l.length - (intOf i).toNat)
    case atStart => exact ⟨0, 0, by omega, rfl, rfl, by simp, by simpa using h2, Below.refl _ _⟩
    case round =>
      obtain ⟨k, s, hk, rfl, hs, rfl, hp, hb⟩ := hrel
      by_cases hlt : k < l.length
      · obtain ⟨x, hx⟩ := get_ex l k hlt
        have hV := hv x (List.mem_of_getElem? hx)
        have hsn := sum_snoc msExFrame l k x hx
        have hle := sum_le msExFrame l (k + 1)
        obtain ⟨ad, A2y, A3y, c2y, c3y, rfl, q0, q1, q2, q3, hl2, hr2, hl3, hr3⟩ := kExFrame_at (hr.below hb) k x hx
        have HX := Lib.hid hx
        clear hx
        have C := szExFrame_c A2y A3y c2y c3y x (left - l.length - s)
        have HV := Lib.hid hV
        clear hV
        by_cases hf : (msExFrame x : Int) ≤ left - l.length - s
        · have HS : Hid (s + msExFrame x = ((l.take (k + 1)).map msExFrame).sum) := Lib.hid (by rw [hsn, ← hs.out])
          have e : lft (msExFrame x) (left - l.length - s) = left - l.length - ((s + msExFrame x : Nat) : Int) := by simp [lft, hf]; omega
          rw [e] at C
          have hp2 : 0 ≤ left - (l.length : Int) - ((s + msExFrame x : Nat) : Int) := by omega
          clear hsn hle hf e
          generalize s + msExFrame x = s2 at C HS hp2
          go_wp2_with fail
          refine (C _ hr2 hr3 HV.out (by omega) (by omega)).mono ?_
          rintro e w' ⟨rfl, hb2⟩
          go_wp2
          go_roundw
          case rel => exact ⟨k + 1, s2, by omega, by go_num, HS, rfl, hp2, bl9⟩
          case measure => simp [intOf]; omega
        · have e : lft (msExFrame x) (left - l.length - s) = -1 := by simp [lft]; omega
          rw [e] at C
          have hend : lft (sumOf msExFrame l) left = -1 := by
            have h3 := hs.out
            simp [lft, sumOf]
            omega
          have HE := Lib.hid hend
          clear hsn hle e hend
          go_wp2_with fail
          refine (C _ hr2 hr3 HV.out (by omega) (by omega)).mono ?_
          rintro e w' ⟨rfl, hb2⟩
          go_wp2
          go_ret
          exact ⟨ret_int HE.out.symm, bl9⟩
      · have hend : lft (sumOf msExFrame l) left = left - l.length - s := by
          have h3 := hs.out
          rw [List.take_of_length_le (by omega)] at h3
          simp only [lft, sumOf, ← h3]
          rw [if_pos (by omega)]
          omega
        have HE := Lib.hid hend
        clear hend
        go_wp2
        go_ret
        exact ⟨ret_int HE.out.symm, hb⟩
  · have h2 : left - (l.length : Int) < 0 := by omega
    go_enter Tryz.func206, Tryz.ntmps206
    go_wp2
    go_ret
    exact ⟨by simp [lft, sumOf]; omega, Below.refl _ _⟩
theorem infoExFrame : (Tryz.prog.info? 171).map (fun i => (i.zero, i.size, i.bytes)) = some (some (.agg #[.int .i64 0, .int .i64 0, .slice none 0 0, .slice none 0 0]), 4, 64) := by kernel_rfl
set_option maxHeartbeats 4000000 in
set_option maxRecDepth 100000 in
theorem toExFrame_c (A2 A3 : Option Addr) (c2 c3 : Nat) (x : DExFrame) (w : World) (r2 : kSrc.Row w A2 x.locals.length x.locals) (r3 : kSrc.Row w A3 x.stack.length x.stack) (hM : MExFrame x) : Calls Tryz.prog 286 #[.agg #[.int .i64 x.fn, .int .i64 x.pc, .slice A2 x.locals.length c2, .slice A3 x.stack.length c3]] w (fun en w' => ∃ (v2 v3 : Value) (F2 F3 : List Nat), en = .returned (.agg #[.int .i64 x.fn, .int .i64 x.pc, v2, v3]) ∧ St w [Res.own kSrc 269 v2 x.locals F2, Res.own kSrc 269 v3 x.stack F3] w') := by
  go_enter Tryz.func286, Tryz.ntmps286
  go_wp2_with fail
  refine (toSrcS_c A2 c2 x.locals _ (r2.below bl9) hM.1).mono ?_
  rintro e w1 ⟨v2, F2, rfl, ho2, hnd2, hF2, hb1⟩
  obtain ⟨Av2, cv2, rfl, _, _⟩ := ho2.row
  obtain ⟨hc1, hf1⟩ := bcell hb1
  have hz1 := hb1.size
  simp at hz1
  have y10 : w.heap.size < w1.heap.size := by omega
  have y11 : w.heap.size + 1 < w1.heap.size := by omega
  have y12 : w.heap.size + 1 + 1 < w1.heap.size := by omega
  have hG2 : ∀ g ∈ F2, w.heap.size + 3 ≤ g := fun g hg => by have := hF2 g hg; simp at this; omega
  have hl2 := ho2.lt
  have hW1 : Below w.heap.size w w1 := bl9
  go_wp2_with fail
  refine (toSrcS_c A3 c3 x.stack _ (r3.below bl9) hM.2).mono ?_
  rintro e w2 ⟨v3, F3, rfl, ho3, hnd3, hF3, hb2⟩
  obtain ⟨Av3, cv3, rfl, _, _⟩ := ho3.row
  obtain ⟨hc2, hf2⟩ := bcell hb2
  have hz2 := hb2.size
  simp at hz2
  have y20 : w.heap.size < w2.heap.size := by omega
  have y21 : w.heap.size + 1 < w2.heap.size := by omega
  have y22 : w.heap.size + 1 + 1 < w2.heap.size := by omega
  have hG3 : ∀ g ∈ F3, w.heap.size + 3 ≤ g := fun g hg => by have := hF3 g hg; simp at this; omega
  have hl3 := ho3.lt
  have hd3_2 : ∀ g ∈ F3, g ∉ F2 := fun g hg hm => by have h8 := hl2 g hm; have h9 := hF3 g hg; simp at h9; omega
  have hW2 : Below w.heap.size w w2 := bl9
  go_wp2
  refine bodyPost_ret (v := .agg #[.int .i64 x.fn, .int .i64 x.pc, .slice Av2 x.locals.length cv2, .slice Av3 x.stack.length cv3]) (by simp [results, Tryz.results286, go_sem, *]) rfl ⟨_, _, F2, F3, rfl, ?_⟩
  refine St.cons (St.cons (St.bare bl9) ?_ hnd3 (fun g hg => by have := hG3 g hg; omega) (by simp)) ?_ hnd2 (fun g hg => by have := hG2 g hg; omega) (by simp only [List.forall_mem_cons]; exact ⟨fun g hg hm => hd3_2 g hm hg, by simp⟩)
  · show kSrc.Own 269 _ _ _ _
    repeat (first | (with_reducible exact ho3) | (refine Knd.Own.set_old ?_ hG3 (by dsimp only; omega) _) | (refine Knd.Own.below ?_ hb2) | (refine Knd.Own.below ?_ hb1))
  · show kSrc.Own 269 _ _ _ _
    repeat (first | (with_reducible exact ho2) | (refine Knd.Own.set_old ?_ hG2 (by dsimp only; omega) _) | (refine Knd.Own.below ?_ hb2) | (refine Knd.Own.below ?_ hb1))
theorem zExFrame_O (w : World) : kExFrame.O w zExFrame (Value.agg #[.int .i64 0, .int .i64 0, .slice none 0 0, .slice none 0 0]).cells.toList [] := kExFrame_Oi.2 ⟨.slice none 0 0, .slice none 0 0, [], [], rfl, rfl, Knd.Own.nil _ _ _, Knd.Own.nil _ _ _⟩
set_option maxHeartbeats 4000000 in
set_option maxRecDepth 100000 in
theorem toExFrameS_c (A : Option Addr) (c : Nat) (l : List DExFrame) (w : World) (hr : kExFrame.Row w A l.length l) (hm : l.length ≤ 1048576 ∧ ∀ y ∈ l, MExFrame y) : Calls Tryz.prog 214 #[.slice A l.length c] w (NewRow kExFrame 171 l w) := by
  obtain ⟨hm, hM⟩ := hm
  go_enter Tryz.func214, Tryz.ntmps214
  go_wp2_with (refine Knd.wp_made kExFrame rfl _ _ _ rfl l.length rfl rfl 171 Tryz.underlying165 (.agg #[.int .i64 0, .int .i64 0, .slice none 0 0, .slice none 0 0]) 64 infoExFrame rfl (by decide) (by omega) zExFrame zExFrame_O (by omega) ?_; rintro g w1 hg ho hb hz; have HG := Lib.hid hg; clear hg)
  have hg0 : w.heap.size ≤ g := Nat.le_of_eq HG.out.symm
  go_loopw [4] (fun i wr => ∃ (k : Nat) (Fs : List (List Nat)), k ≤ l.length ∧ i = .int .i64 k ∧ kExFrame.OwnF 171 wr (.slice (some ⟨g, 0, none⟩) l.length l.length) (l.take k ++ List.replicate (l.length - k) zExFrame) Fs ∧ Hid ((g :: Fs.flatten).Nodup ∧ (∀ q ∈ Fs.flatten, w.heap.size ≤ q)) ∧ Below w.heap.size w wr) (fun i _ => l.length - (intOf i).toNat)
  case atStart => exact ⟨0, List.replicate l.length [], by omega, rfl, by simpa using ho, ⟨by simp [rep_flat], by simp [rep_flat]⟩, hb⟩
  case round =>
    obtain ⟨k, Fs, hk, rfl, ho, hN, hb⟩ := hrel
    by_cases hlt : k < l.length
    · obtain ⟨x, hx⟩ := get_exT l k hlt
      obtain ⟨ad, A2y, A3y, c2y, c3y, rfl, q0, q1, q2, q3, hl2, hr2, hl3, hr3⟩ := kExFrame_at (hr.below hb) k x hx
      have hMx := hM x (List.mem_of_getElem? hx)
      have hp := part_set l zExFrame x k hx
      have hle : k < (l.take k ++ List.replicate (l.length - k) zExFrame).length := by simp; omega
      have hlen : (l.take k ++ List.replicate (l.length - k) zExFrame).length = l.length := by simp; omega
      have hFl : Fs.length = l.length := ho.len.trans hlen
      have HF := Lib.hid hFl
      clear hFl
      have HP := Lib.hid hp
      have HX := Lib.hid hx
      have HL := Lib.hid hlen
      clear hp hx hlen
      have C := toExFrame_c A2y A3y c2y c3y x wr hr2 hr3 hMx
      go_wp2_with fail
      refine C.mono ?_
      rintro e w' ⟨v2, v3, F2, F3, rfl, hS2⟩
      obtain ⟨Av2, cv2, rfl, _, _⟩ := hS2.row 0 rfl
      obtain ⟨Av3, cv3, rfl, _, _⟩ := hS2.row 1 rfl
      have hb2 := hS2.bel
      have ho2 := ho.below hb2
      obtain ⟨u0, s0⟩ := ho2.cell (k * 4) (by rw [HL.out]; show _ < l.length * 4; omega)
      have f0 := ho2.free (k * 4)
      obtain ⟨u1, s1⟩ := ho2.cell (k * 4 + 1) (by rw [HL.out]; show _ < l.length * 4; omega)
      have f1 := ho2.free (k * 4 + 1)
      obtain ⟨u2, s2⟩ := ho2.cell (k * 4 + 2) (by rw [HL.out]; show _ < l.length * 4; omega)
      have f2 := ho2.free (k * 4 + 2)
      obtain ⟨u3, s3⟩ := ho2.cell (k * 4 + 3) (by rw [HL.out]; show _ < l.length * 4; omega)
      have f3 := ho2.free (k * 4 + 3)
      have HS2 := Lib.hid hS2
      clear hS2
      go_wp2
      go_roundw
      case rel =>
        have hlt2 : ∀ q ∈ g :: Fs.flatten, q < wr.heap.size := fun q hq => ho.lt q (by simpa [Value.ownBlock] using hq)
        have hnew : ∀ q ∈ (F2 ++ F3), wr.heap.size ≤ q := fun q hq => by
          have h8 := HS2.out.old
          simp only [List.forall_mem_cons] at h8
          (try simp only [List.mem_append] at hq)
          rcases hq with hq | hq
          · exact h8.1 q hq
          · exact h8.2.1 q hq
        have hnd : ((F2 ++ F3)).Nodup := by have h8 := HS2.out.dis; simpa [Res.own] using h8
        have hd : ∀ q ∈ (F2 ++ F3), q ∉ g :: Fs.flatten := fun q hq hm => by have := hlt2 q hm; have := hnew q hq; omega
        have h1 := ho2.put k hle [.int .i64 x.fn, .int .i64 x.pc, .slice Av2 x.locals.length cv2, .slice Av3 x.stack.length cv3] x (F2 ++ F3) (kExFrame_Oi.2 ⟨_, _, F2, F3, rfl, rfl, HS2.out.get 0 rfl, HS2.out.get 1 rfl⟩) (fun h => hd g h (by simp)) (List.nodup_cons.1 hN.out.1).1
        rw [HP.out] at h1
        refine ⟨k + 1, Fs.set k (F2 ++ F3), by omega, by go_num, h1, ⟨nodup_put (by rw [HF.out]; exact hlt) hN.out.1 hnd hd, fun q hq => ?_⟩, ?_⟩
        · rcases mem_put (by rw [HF.out]; exact hlt) hq with hq | hq
          · have := hnew q hq
            have := hb.size
            omega
          · exact hN.out.2 q hq
        · exact bl9
      case measure => simp [intOf]; omega
    · obtain rfl : k = l.length := by omega
      go_wp2
      go_ret
      have h1 := ho.own
      rw [List.take_length, Nat.sub_self, List.replicate_zero, List.append_nil] at h1
      exact ⟨_, _, rfl, h1, hN.out.1, fun q hq => by
        rcases List.mem_cons.1 hq with rfl | hq
        · exact hg0
        · exact hN.out.2 q hq, hb⟩
set_option maxHeartbeats 4000000 in
set_option maxRecDepth 100000 in
theorem eqExFrame_c (A2 A3 : Option Addr) (c2 c3 : Nat) (A2z A3z : Option Addr) (c2z c3z : Nat) (x : DExFrame) (w : World) (r2 : kSrc.Row w A2 x.locals.length x.locals) (r3 : kSrc.Row w A3 x.stack.length x.stack) (r2z : kSrc.Row w A2z x.locals.length x.locals) (r3z : kSrc.Row w A3z x.stack.length x.stack) : Calls Tryz.prog 314 #[.agg #[.int .i64 x.fn, .int .i64 x.pc, .slice A2 x.locals.length c2, .slice A3 x.stack.length c3], .agg #[.int .i64 x.fn, .int .i64 x.pc, .slice A2z x.locals.length c2z, .slice A3z x.stack.length c3z]] w fun e w' => e = .returned (.bool true) ∧ Below w.heap.size w w' := by
  have hS := ((St.start w).made (.cells #[.int .i64 x.fn, .int .i64 x.pc, .slice A2 x.locals.length c2, .slice A3 x.stack.length c3] 171 (0, 0))).madeAt (.cells #[.int .i64 x.fn, .int .i64 x.pc, .slice A2z x.locals.length c2z, .slice A3z x.stack.length c3z] 171 (0, 0)) (w.heap.size + 1) (by simp)
  go_enter Tryz.func314, Tryz.ntmps314
  go_wp2_with fail
  refine (eqSrcS_c A2 A2z c2 c2z x.locals _ (r2.below hS.bel) (r2z.below hS.bel)).mono ?_
  rintro e w1 ⟨rfl, hb⟩
  replace hS := hS.step hb
  have xb := hS.cell 0 rfl
  have xa := hS.cell 1 rfl
  have yb := hS.blt 0 rfl
  have ya := hS.blt 1 rfl
  clear hb
  go_wp2_with fail
  refine (eqSrcS_c A3 A3z c3 c3z x.stack _ (r3.below hS.bel) (r3z.below hS.bel)).mono ?_
  rintro e w2 ⟨rfl, hb⟩
  replace hS := hS.step hb
  have xb := hS.cell 0 rfl
  have xa := hS.cell 1 rfl
  have yb := hS.blt 0 rfl
  have ya := hS.blt 1 rfl
  clear hb
  go_wp2
  go_ret
  exact ⟨rfl, hS.bel⟩
set_option maxHeartbeats 4000000 in
set_option maxRecDepth 100000 in
theorem eqExFrameS_c (A B : Option Addr) (c c' : Nat) (l : List DExFrame) (w : World) (hr : kExFrame.Row w A l.length l) (hr' : kExFrame.Row w B l.length l) : Calls Tryz.prog 228 #[.slice A l.length c, .slice B l.length c'] w fun e w' => e = .returned (.bool true) ∧ Below w.heap.size w w' := by
  have hm := hr.2.1
  go_enter Tryz.func228, Tryz.ntmps228
  go_wp2
  go_loopw [5] (fun i wr => ∃ k : Nat, k ≤ l.length ∧ i = .int .i64 k ∧ Below w.heap.size w wr) (fun i _ => l.length - (intOf i).toNat)
  case atStart => exact ⟨0, by omega, rfl, Below.refl _ _⟩
  case round =>
    obtain ⟨k, hk, rfl, hb⟩ := hrel
    by_cases hlt : k < l.length
    · obtain ⟨x, hx⟩ := get_exE l k hlt
      obtain ⟨ady, A2y, A3y, c2y, c3y, rfl, q0, q1, q2, q3, hl2y, hr2y, hl3y, hr3y⟩ := kExFrame_at (hr.below hb) k x hx
      obtain ⟨adz, A2z, A3z, c2z, c3z, rfl, p0, p1, p2, p3, hl2z, hr2z, hl3z, hr3z⟩ := kExFrame_at (hr'.below hb) k x hx
      clear hx
      go_wp2
      go_region_held3 (fun w' => w'.cell? (ady.add (k * 4)) = some (.int .i64 x.fn) ∧ w'.cell? ⟨(ady.add (k * 4)).block, (ady.add (k * 4)).off + 1, none⟩ = some (.int .i64 x.pc) ∧ w'.cell? ⟨(ady.add (k * 4)).block, (ady.add (k * 4)).off + 2, none⟩ = some (.slice A2y x.locals.length c2y) ∧ w'.cell? ⟨(ady.add (k * 4)).block, (ady.add (k * 4)).off + 3, none⟩ = some (.slice A3y x.stack.length c3y) ∧ w'.cell? (adz.add (k * 4)) = some (.int .i64 x.fn) ∧ w'.cell? ⟨(adz.add (k * 4)).block, (adz.add (k * 4)).off + 1, none⟩ = some (.int .i64 x.pc) ∧ w'.cell? ⟨(adz.add (k * 4)).block, (adz.add (k * 4)).off + 2, none⟩ = some (.slice A2z x.locals.length c2z) ∧ w'.cell? ⟨(adz.add (k * 4)).block, (adz.add (k * 4)).off + 3, none⟩ = some (.slice A3z x.stack.length c3z) ∧ Below wr.heap.size wr w') ((refine ⟨?_, ?_, ?_, ?_, ?_, ?_, ?_, ?_, ?_⟩ <;> first | assumption | (go_keep; done) | exact bl9)) (first | (go_at_call 314; refine (eqExFrame_c _ _ _ _ _ _ _ _ _ _ (hr2y.below bl9) (hr3y.below bl9) (hr2z.below bl9) (hr3z.below bl9)).mono ?_; rintro e w' ⟨rfl, hb2⟩; have q0 := kept hb2 q0; have q1 := kept hb2 q1; have q2 := kept hb2 q2; have q3 := kept hb2 q3; have p0 := kept hb2 p0; have p1 := kept hb2 p1; have p2 := kept hb2 p2; have p3 := kept hb2 p3; have hW2 : Below wr.heap.size wr w' := bl9))
      go_wp2
      go_roundw
      case rel => exact ⟨k + 1, by omega, by go_num, bl9⟩
      case measure => simp [intOf]; omega
    · go_wp2
      go_ret
      exact ⟨rfl, hb⟩
theorem ctOneExFrame (x : DExFrame) : ctExFrame x ≤ 5 * (msExFrame x + 1) := by
  have h2 := ctLeSrc x.locals
  have h3 := ctLeSrc x.stack
  unfold ctExFrame msExFrame
  try simp only [sumOf] at *
  omega
theorem ctLeExFrame (l : List DExFrame) : ctL ctExFrame l ≤ 5 * sumOf msExFrame l := ctL_le2 5 ctOneExFrame l
set_option maxHeartbeats 4000000 in
set_option maxRecDepth 100000 in
theorem markExFrameS_c (v : Value) (l : List DExFrame) (k : Int) (F : List Nat) (w : World) (h : kExFrame.Own 171 w v l F) (hnd : F.Nodup) (h0 : 0 ≤ k) (h1 : k + ctL ctExFrame l ≤ 1152921504606846976) (hm : l.length ≤ 1048576 ∧ ∀ y ∈ l, MExFrame y) : Calls Tryz.prog 142 #[v, .int .i64 k] w fun e w' => e = .returned (.int .i64 (k + ctL ctExFrame l)) ∧ kExFrame.Own 171 w' v (mkL mkExFrame ctExFrame k l) F ∧ But F w w' := by
  have hlm : l.length ≤ 1048576 := hm.1
  by_cases hn : 0 < l.length
  rotate_left
  · have e : l = [] := List.eq_nil_of_length_eq_zero (by omega)
    subst e
    obtain ⟨A, c, rfl, _, _⟩ := h.row
    go_enter Tryz.func142, Tryz.ntmps142
    go_wp2
    go_loopw [1, 5] (fun u i wr => u = .int .i64 k ∧ i = .int .i64 0 ∧ w = wr) (fun _ i _ => 0)
    case atStart => exact ⟨rfl, rfl, rfl⟩
    case round =>
      obtain ⟨rfl, rfl, rfl⟩ := hrel
      go_wp2
      go_ret
      exact ⟨by simp [ctL], h, But.refl _ _⟩
  obtain ⟨g, c, Fs, inner, rfl, hFe, hA0⟩ := h.toAt hnd hn
  subst hFe
  clear h hnd
  go_enter Tryz.func142, Tryz.ntmps142
  go_wp2
  go_loopw [1, 5] (fun u i wr => ∃ (j : Nat) (inner : List Value), j ≤ l.length ∧ u = .int .i64 (k + ctL ctExFrame (l.take j)) ∧ i = .int .i64 j ∧ kExFrame.At 171 wr g l.length c (upto mkExFrame ctExFrame k l j) Fs inner ∧ But (g :: Fs.flatten) w wr) (fun _ i _ => l.length - (intOf i).toNat)
  case atStart => exact ⟨0, inner, by omega, by simp [ctL], rfl, by rw [upto_0]; exact hA0, But.refl _ _⟩
  case round =>
    clear hA0
    obtain ⟨j, inner, hj, rfl, rfl, hA, hB⟩ := hrel
    by_cases hlt : j < l.length
    rotate_left
    · obtain rfl : j = l.length := by omega
      rw [upto_all] at hA
      rw [List.take_length]
      go_wp2
      go_ret
      exact ⟨rfl, hA.own, hB⟩
    obtain ⟨x, hx⟩ := get_exU l j hlt
    have hset := Lib.hid (upto_set mkExFrame ctExFrame k l j x hx)
    have hct := Lib.hid (ctL_snoc ctExFrame l j x hx)
    have hle := ctL_mem ctExFrame l j x hx
    have hMx := hm.2 x (List.mem_of_getElem? hx)
    have hul : j < (upto mkExFrame ctExFrame k l j).length := by rw [upto_len]; exact hlt
    obtain ⟨Fj, hFj, hO, _⟩ := hA.elem j x (upto_get mkExFrame ctExFrame k l j x hx)
    obtain ⟨v2, v3, G2, G3, hseg, hFn, o2, o3⟩ := kExFrame_Oi.1 hO
    have hFn := hFn.symm
    subst hFn
    have hGl : ∀ q ∈ (G2 ++ G3), q ∈ Fs.flatten := fun q hq => List.mem_flatten.2 ⟨_, List.mem_of_getElem? hFj, hq⟩
    have hne : ∀ q ∈ (G2 ++ G3), q ≠ g := fun q hq => hA.gne q (hGl q hq)
    have hnj : ((G2 ++ G3)).Nodup := (List.pairwise_flatten.1 (List.nodup_cons.1 hA.nd).2).1 _ (List.mem_of_getElem? hFj)
    obtain ⟨hn2, hn3, hdj⟩ := List.nodup_append.1 hnj
    obtain ⟨K, hK⟩ : ∃ K, k + (ctL ctExFrame (l.take j) : Int) = K := ⟨_, rfl⟩
    have hK0 : 0 ≤ K := by omega
    have hK1 : K + ctExFrame x ≤ 1152921504606846976 := by omega
    rw [hK]
    have HK := Lib.hid hK
    unfold ctExFrame at hK1
    have HUL := Lib.hid hul
    have HFJ := Lib.hid hFj
    clear hK hle hO hx
    have c0 : wr.cell? ⟨g, j * 4, none⟩ = some (.int .i64 (x.fn)) := hA.cellj j 0 HUL.out hseg rfl
    have f0 : wr.frozen? ⟨g, j * 4, none⟩ = false := hA.free _
    have c1 : wr.cell? ⟨g, j * 4 + 1, none⟩ = some (.int .i64 (x.pc)) := hA.cellj j 1 HUL.out hseg rfl
    have f1 : wr.frozen? ⟨g, j * 4 + 1, none⟩ = false := hA.free _
    have hP1 := hA.put j 0 HUL.out (by decide) (.int .i64 (K)) ({ fn := K, pc := x.pc, locals := x.locals, stack := x.stack } : DExFrame) (G2 ++ G3) HFJ.out (by rw [hseg]; exact (kExFrame_Oi.2 ⟨v2, v3, G2, G3, rfl, rfl, o2, o3⟩))
    have hseg1 := (Knd.At.seg_set_same (d := kExFrame) _ j 0 (.int .i64 (K)) (by decide)).trans (congrArg (fun z => z.set 0 (.int .i64 (K))) hseg)
    have o2_1 : kSrc.Own 269 (wr.setCell ⟨g, j * 4, none⟩ (.int .i64 (K))) v2 x.locals G2 := o2.frame (fun q hq => Below.heap_setCell _ _ _ q (hne q (by simp [hq])))
    have o3_1 : kSrc.Own 269 (wr.setCell ⟨g, j * 4, none⟩ (.int .i64 (K))) v3 x.stack G3 := o3.frame (fun q hq => Below.heap_setCell _ _ _ q (hne q (by simp [hq])))
    have hB1 := Knd.At.but_put hB (j * 4 + 0) (.int .i64 (K))
    have hP2 := hP1.put j 1 (by rw [List.length_set]; exact HUL.out) (by decide) (.int .i64 (K + 1)) ({ fn := K, pc := K + 1, locals := x.locals, stack := x.stack } : DExFrame) (G2 ++ G3) HFJ.out (by rw [hseg1]; exact (kExFrame_Oi.2 ⟨v2, v3, G2, G3, rfl, rfl, o2_1, o3_1⟩))
    rw [List.set_set] at hP2
    have hseg2 := (Knd.At.seg_set_same (d := kExFrame) _ j 1 (.int .i64 (K + 1)) (by decide)).trans (congrArg (fun z => z.set 1 (.int .i64 (K + 1))) hseg1)
    have o2_2 : kSrc.Own 269 ((wr.setCell ⟨g, j * 4, none⟩ (.int .i64 (K))).setCell ⟨g, j * 4 + 1, none⟩ (.int .i64 (K + 1))) v2 x.locals G2 := o2_1.frame (fun q hq => Below.heap_setCell _ _ _ q (hne q (by simp [hq])))
    have o3_2 : kSrc.Own 269 ((wr.setCell ⟨g, j * 4, none⟩ (.int .i64 (K))).setCell ⟨g, j * 4 + 1, none⟩ (.int .i64 (K + 1))) v3 x.stack G3 := o3_1.frame (fun q hq => Below.heap_setCell _ _ _ q (hne q (by simp [hq])))
    have hB2 := Knd.At.but_put hB1 (j * 4 + 1) (.int .i64 (K + 1))
    have C3 := markSrcS_c v2 x.locals (K + 1 + 1) G2 _ o2_2 hn2 (by omega) (by omega) hMx.1
    have cs2 : ((wr.setCell ⟨g, j * 4, none⟩ (.int .i64 (K))).setCell ⟨g, j * 4 + 1, none⟩ (.int .i64 (K + 1))).cell? ⟨g, j * 4 + 2, none⟩ = some v2 := hP2.cellj j 2 (by rw [List.length_set]; exact HUL.out) hseg2 rfl
    have HP := Lib.hid hP2
    have HG := Lib.hid hseg2
    have HBB := Lib.hid hB2
    have HO2 := Lib.hid o2_2
    have HO3 := Lib.hid o3_2
    try clear hA
    try clear hseg
    try clear hB
    try clear hP1
    try clear hP2
    try clear hP3
    try clear hseg1
    try clear hseg2
    try clear hseg3
    try clear hB1
    try clear hB2
    try clear hB3
    try clear o2
    try clear o3
    try clear o2_1
    try clear o2_2
    try clear o2_3
    try clear o3_1
    try clear o3_2
    try clear o3_3
    go_wp2_with fail
    refine C3.mono ?_
    rintro e w3 ⟨rfl, ho3, hBi3⟩
    clear C3 cs2
    have o3_3 := HO3.out.frame (fun q hq => hBi3.block q (HO3.out.lt q hq) (fun hm => hdj q hm q hq rfl))
    have hT3 := HP.out.turn j (by rw [List.length_set]; exact HUL.out) ({ fn := K, pc := K + 1, locals := mkL mkSrc ctSrc (K + 1 + 1) x.locals, stack := x.stack } : DExFrame) (G2 ++ G3) G2 HFJ.out (fun q hq => by simp [hq]) hBi3 (by rw [HG.out]; exact (kExFrame_Oi.2 ⟨v2, v3, G2, G3, rfl, rfl, ho3, o3_3⟩))
    rw [List.set_set] at hT3
    have hP3 := hT3
    have hseg3 := HG.out
    have hB3 := Knd.At.but_turn HBB.out HFJ.out (fun q hq => by simp [hq]) hBi3
    clear hT3 HP HG HBB HO2 HO3
    have hkz3 : 0 ≤ K + 1 + 1 + (ctL ctSrc x.locals : Int) := by omega
    have C4 := markSrcS_c v3 x.stack (K + 1 + 1 + ctL ctSrc x.locals) G3 _ o3_3 hn3 (by omega) (by omega) hMx.2
    have cs3 : w3.cell? ⟨g, j * 4 + 3, none⟩ = some v3 := hP3.cellj j 3 (by rw [List.length_set]; exact HUL.out) hseg3 rfl
    have HP := Lib.hid hP3
    have HG := Lib.hid hseg3
    have HBB := Lib.hid hB3
    have HO2 := Lib.hid ho3
    have HO3 := Lib.hid o3_3
    try clear hA
    try clear hseg
    try clear hB
    try clear hP1
    try clear hP2
    try clear hP3
    try clear hP4
    try clear hseg1
    try clear hseg2
    try clear hseg3
    try clear hseg4
    try clear hB1
    try clear hB2
    try clear hB3
    try clear hB4
    try clear o2
    try clear o3
    try clear o2_1
    try clear o2_2
    try clear o2_3
    try clear o2_4
    try clear o3_1
    try clear o3_2
    try clear o3_3
    try clear o3_4
    go_wp2_with fail
    refine C4.mono ?_
    rintro e w4 ⟨rfl, ho4, hBi4⟩
    clear C4 cs3
    have o2_4 := HO2.out.frame (fun q hq => hBi4.block q (HO2.out.lt q hq) (fun hm => hdj q hq q hm rfl))
    have hT4 := HP.out.turn j (by rw [List.length_set]; exact HUL.out) ({ fn := K, pc := K + 1, locals := mkL mkSrc ctSrc (K + 1 + 1) x.locals, stack := mkL mkSrc ctSrc (K + 1 + 1 + ctL ctSrc x.locals) x.stack } : DExFrame) (G2 ++ G3) G3 HFJ.out (fun q hq => by simp [hq]) hBi4 (by rw [HG.out]; exact (kExFrame_Oi.2 ⟨v2, v3, G2, G3, rfl, rfl, o2_4, ho4⟩))
    rw [List.set_set] at hT4
    have hP4 := hT4
    have hseg4 := HG.out
    have hB4 := Knd.At.but_turn HBB.out HFJ.out (fun q hq => by simp [hq]) hBi4
    clear hT4 HP HG HBB HO2 HO3
    have hkz4 : 0 ≤ K + 1 + 1 + ctL ctSrc x.locals + (ctL ctSrc x.stack : Int) := by omega
    have HP := Lib.hid hP4
    have HG := Lib.hid hseg4
    have HBB := Lib.hid hB4
    have HO2 := Lib.hid o2_4
    have HO3 := Lib.hid ho4
    try clear hA
    try clear hseg
    try clear hB
    try clear hP1
    try clear hP2
    try clear hP3
    try clear hP4
    try clear hseg1
    try clear hseg2
    try clear hseg3
    try clear hseg4
    try clear hB1
    try clear hB2
    try clear hB3
    try clear hB4
    try clear o2
    try clear o3
    try clear o2_1
    try clear o2_2
    try clear o2_3
    try clear o2_4
    try clear o3_1
    try clear o3_2
    try clear o3_3
    try clear o3_4
    go_wp2
    go_roundw
    case rel =>
      have h9 := HP.out
      rw [show ({ fn := K, pc := K + 1, locals := mkL mkSrc ctSrc (K + 1 + 1) x.locals, stack := mkL mkSrc ctSrc (K + 1 + 1 + ctL ctSrc x.locals) x.stack } : DExFrame) = mkExFrame (k + ctL ctExFrame (l.take j)) x from by rw [HK.out]; rfl, hset.out] at h9
      exact ⟨j + 1, _, by omega, by rw [hct.out, ← HK.out]; simp [ctExFrame]; omega, by go_num, h9, HBB.out⟩
    case measure => simp [intOf]; omega
end Go.Proofs.YthinhlcfpaaldaaGreat.Dat
