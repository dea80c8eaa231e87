/- The laws' own functions over Exit. Written by a program (recgen.py). -/
import Derived.Test.YthinhlcfpaaldaaGreatK4
import Derived.Test.YthinhlcfpaaldaaGreatGExFrame
import Derived.Test.YthinhlcfpaaldaaGreatGExRec
namespace Go.Proofs.YthinhlcfpaaldaaGreat.Dat
open Go Go.RowKit Go.Proofs.YthinhlcfpaaldaaGreat.Mem
set_option linter.unusedVariables false
set_option linter.unusedSimpArgs false
structure DExit where
  kind : Int
  spec : DSpec
  frames : List DExFrame
  recs : List DExRec
def zExit : DExit := ⟨0, zSpec, [], []⟩
def kExit : Knd DExit := Knd.iso (Knd.pair (Knd.int .i64) (Knd.pair kSpec (Knd.pair (Knd.slice 171 kExFrame) (Knd.slice 174 kExRec)))) (fun x => (x.kind, x.spec, x.frames, x.recs))
/-- What is handed in meets this. -/
def VExit (x : DExit) : Prop := (Lit.int .i64 x.kind).wf = true ∧ VSpec x.spec ∧ (x.frames.length ≤ maxLen ∧ ∀ y ∈ x.frames, VExFrame y) ∧ (x.recs.length ≤ maxLen ∧ ∀ y ∈ x.recs, VExRec y)
theorem kExit_K {w : World} {x : DExit} {cs : List Value} : kExit.K w x cs ↔ ∃ (A5 A6 : Option Addr) (c5 c6 : Nat), cs = [.int .i64 x.kind, .int .i64 x.spec.fn, .int .i64 x.spec.pc, .int .i64 x.spec.kind, .int .i64 x.spec.target, .slice A5 x.frames.length c5, .slice A6 x.recs.length c6] ∧ x.frames.length ≤ c5 ∧ kExFrame.Row w A5 x.frames.length x.frames ∧ x.recs.length ≤ c6 ∧ kExRec.Row w A6 x.recs.length x.recs := by
  constructor
  · rintro ⟨_, _, rfl, rfl, ⟨_, _, rfl, h_spec, ⟨_, _, rfl, ⟨A_frames, c_frames, rfl, hl_frames, hr_frames⟩, ⟨A_recs, c_recs, rfl, hl_recs, hr_recs⟩⟩⟩⟩
    have e_spec := kSpec_K.1 h_spec
    subst e_spec
    exact ⟨A_frames, A_recs, c_frames, c_recs, rfl, hl_frames, hr_frames, hl_recs, hr_recs⟩
  · rintro ⟨A5, A6, c5, c6, rfl, h5, r5, h6, r6⟩
    exact ⟨[.int .i64 x.kind], [.int .i64 x.spec.fn, .int .i64 x.spec.pc, .int .i64 x.spec.kind, .int .i64 x.spec.target, .slice A5 x.frames.length c5, .slice A6 x.recs.length c6], rfl, rfl, ⟨[.int .i64 x.spec.fn, .int .i64 x.spec.pc, .int .i64 x.spec.kind, .int .i64 x.spec.target], [.slice A5 x.frames.length c5, .slice A6 x.recs.length c6], rfl, (kSpec_K.2 rfl), ⟨[.slice A5 x.frames.length c5], [.slice A6 x.recs.length c6], rfl, ⟨A5, c5, rfl, h5, r5⟩, ⟨A6, c6, rfl, h6, r6⟩⟩⟩⟩
theorem kExit_at {w : World} {A : Option Addr} {m : Nat} {xs : List DExit} (h : kExit.Row w A m xs) (i : Nat) (x : DExit) (hx : xs[i]? = some x) : ∃ (ad : Addr) (A5 A6 : Option Addr) (c5 c6 : Nat), A = some ad ∧ w.cell? (ad.add (i * 7)) = some (.int .i64 x.kind) ∧ w.cell? ⟨(ad.add (i * 7)).block, (ad.add (i * 7)).off + 1, none⟩ = some (.int .i64 x.spec.fn) ∧ w.cell? ⟨(ad.add (i * 7)).block, (ad.add (i * 7)).off + 2, none⟩ = some (.int .i64 x.spec.pc) ∧ w.cell? ⟨(ad.add (i * 7)).block, (ad.add (i * 7)).off + 3, none⟩ = some (.int .i64 x.spec.kind) ∧ w.cell? ⟨(ad.add (i * 7)).block, (ad.add (i * 7)).off + 4, none⟩ = some (.int .i64 x.spec.target) ∧ w.cell? ⟨(ad.add (i * 7)).block, (ad.add (i * 7)).off + 5, none⟩ = some (.slice A5 x.frames.length c5) ∧ w.cell? ⟨(ad.add (i * 7)).block, (ad.add (i * 7)).off + 6, none⟩ = some (.slice A6 x.recs.length c6) ∧ x.frames.length ≤ c5 ∧ kExFrame.Row w A5 x.frames.length x.frames ∧ x.recs.length ≤ c6 ∧ kExRec.Row w A6 x.recs.length x.recs := by
  obtain ⟨ad, c, e, hK, hc0⟩ := h.get i x hx
  have hc : ∀ j u, c[j]? = some u → w.cell? (ad.add (i * 7 + j)) = some u := hc0
  obtain ⟨A5, A6, c5, c6, rfl, h5, r5, h6, r6⟩ := kExit_K.1 hK
  exact ⟨ad, A5, A6, c5, c6, e, hc 0 _ rfl, (by rw [← add_field _ _ 1 (by omega)]; exact hc 1 _ rfl), (by rw [← add_field _ _ 2 (by omega)]; exact hc 2 _ rfl), (by rw [← add_field _ _ 3 (by omega)]; exact hc 3 _ rfl), (by rw [← add_field _ _ 4 (by omega)]; exact hc 4 _ rfl), (by rw [← add_field _ _ 5 (by omega)]; exact hc 5 _ rfl), (by rw [← add_field _ _ 6 (by omega)]; exact hc 6 _ rfl), h5, r5, h6, r6⟩
def ctExit (x : DExit) : Nat := 5 + ctL ctExFrame x.frames + ctL ctExRec x.recs
def mkExit (k : Int) (x : DExit) : DExit := { kind := k, spec := { fn := k + 1, pc := k + 1 + 1, kind := k + 1 + 1 + 1, target := k + 1 + 1 + 1 + 1 }, frames := mkL mkExFrame ctExFrame (k + 1 + 1 + 1 + 1 + 1) x.frames, recs := mkL mkExRec ctExRec (k + 1 + 1 + 1 + 1 + 1 + ctL ctExFrame x.frames) x.recs }
theorem kExit_Oi {w : World} {x : DExit} {cs : List Value} {F : List Nat} : kExit.O w x cs F ↔ ∃ (v5 v6 : Value) (F5 F6 : List Nat), cs = [.int .i64 x.kind, .int .i64 x.spec.fn, .int .i64 x.spec.pc, .int .i64 x.spec.kind, .int .i64 x.spec.target, v5, v6] ∧ F = F5 ++ F6 ∧ kExFrame.Own 171 w v5 x.frames F5 ∧ kExRec.Own 174 w v6 x.recs F6 := by
  constructor
  · rintro ⟨_, _, _, _, rfl, rfl, ⟨rfl, rfl⟩, ⟨_, _, _, _, rfl, rfl, h_spec, ⟨_, _, _, _, rfl, rfl, ⟨v5, rfl, o5⟩, ⟨v6, rfl, o6⟩⟩⟩⟩
    obtain ⟨e1_spec, e2_spec⟩ := kSpec_Oi.1 h_spec
    subst e1_spec
    subst e2_spec
    exact ⟨v5, v6, _, _, rfl, by simp, o5, o6⟩
  · rintro ⟨v5, v6, F5, F6, rfl, rfl, o5, o6⟩
    have h : kExit.O w x [.int .i64 x.kind, .int .i64 x.spec.fn, .int .i64 x.spec.pc, .int .i64 x.spec.kind, .int .i64 x.spec.target, v5, v6] (([] ++ ([] ++ (F5 ++ F6)))) := ⟨[.int .i64 x.kind], [.int .i64 x.spec.fn, .int .i64 x.spec.pc, .int .i64 x.spec.kind, .int .i64 x.spec.target, v5, v6], [], ([] ++ (F5 ++ F6)), rfl, by simp, ⟨rfl, rfl⟩, ⟨[.int .i64 x.spec.fn, .int .i64 x.spec.pc, .int .i64 x.spec.kind, .int .i64 x.spec.target], [v5, v6], [], (F5 ++ F6), rfl, by simp, (kSpec_Oi.2 ⟨rfl, rfl⟩), ⟨[v5], [v6], F5, F6, rfl, by simp, ⟨v5, rfl, o5⟩, ⟨v6, rfl, o6⟩⟩⟩⟩
    simpa using h
def msExit (x : DExit) : Nat := sumOf msExFrame x.frames + sumOf msExRec x.recs
/-- What a small measure gives. -/
def MExit (x : DExit) : Prop := (x.frames.length ≤ 1048576 ∧ ∀ y ∈ x.frames, MExFrame y) ∧ (x.recs.length ≤ 1048576 ∧ ∀ y ∈ x.recs, MExRec y)
theorem MExit_of {x : DExit} (h : msExit x ≤ 1048576) : MExit x := by
  unfold msExit at h
  try simp only [sumOf] at h
  unfold MExit
  exact ⟨⟨by omega, fun y hy => by have h9 := mem_sum msExFrame _ y hy; exact MExFrame_of (by omega)⟩, ⟨by omega, fun y hy => by have h9 := mem_sum msExRec _ y hy; exact MExRec_of (by omega)⟩⟩
set_option maxHeartbeats 4000000 in
set_option maxRecDepth 100000 in
theorem szExit_c (A5 A6 : Option Addr) (c5 c6 : Nat) (x : DExit) (left : Int) (w : World) (r5 : kExFrame.Row w A5 x.frames.length x.frames) (r6 : kExRec.Row w A6 x.recs.length x.recs) (hV : VExit x) (h0 : 0 ≤ left) (h1 : left ≤ 1048576) : Calls Tryz.prog 127 #[.agg #[.int .i64 x.kind, .int .i64 x.spec.fn, .int .i64 x.spec.pc, .int .i64 x.spec.kind, .int .i64 x.spec.target, .slice A5 x.frames.length c5, .slice A6 x.recs.length c6], .int .i64 left] w fun e w' => e = .returned (.int .i64 (lft (msExit x) left)) ∧ Below w.heap.size w w' := by
  have hS := (St.start w).made (.cells #[.int .i64 x.kind, .int .i64 x.spec.fn, .int .i64 x.spec.pc, .int .i64 x.spec.kind, .int .i64 x.spec.target, .slice A5 x.frames.length c5, .slice A6 x.recs.length c6] 194 (0, 0))
  by_cases k0 : ((sumOf msExFrame x.frames : Nat) : Int) ≤ left
  rotate_left
  · skip
    have C0 := szExFrameS_c A5 c5 x.frames left
    rw [lft_gt (by omega)] at C0
    have HE := Lib.hid (show (-1 : Int) = lft (msExit x) left by unfold msExit; rw [lft_gt (by omega)])
    go_enter Tryz.func127, Tryz.ntmps127
    go_wp2_with fail
    refine (C0 _ (r5.below hS.bel) hV.2.2.1.1 hV.2.2.1.2 (by omega) (by omega)).mono ?_
    rintro e w1 ⟨rfl, hb⟩
    replace hS := hS.step hb
    have xb := hS.cell 0 rfl
    have yb := hS.blt 0 rfl
    clear hb
    go_wp2
    go_ret
    exact ⟨ret_int HE.out, hS.bel⟩
  by_cases k1 : ((sumOf msExRec x.recs : Nat) : Int) ≤ left - (sumOf msExFrame x.frames : Int)
  rotate_left
  · skip
    have C0 := szExFrameS_c A5 c5 x.frames left
    rw [lft_le k0] at C0
    have C1 := szExRecS_c A6 c6 x.recs (left - (sumOf msExFrame x.frames : Int))
    rw [lft_gt (by omega)] at C1
    have g0 : 0 ≤ left - (sumOf msExFrame x.frames : Int) := by omega
    have HE := Lib.hid (show (-1 : Int) = lft (msExit x) left by unfold msExit; rw [lft_gt (by omega)])
    go_enter Tryz.func127, Tryz.ntmps127
    go_wp2_with fail
    refine (C0 _ (r5.below hS.bel) hV.2.2.1.1 hV.2.2.1.2 (by omega) (by omega)).mono ?_
    rintro e w1 ⟨rfl, hb⟩
    replace hS := hS.step hb
    have xb := hS.cell 0 rfl
    have yb := hS.blt 0 rfl
    clear hb
    go_wp2_with fail
    refine (C1 _ (r6.below hS.bel) hV.2.2.2.1 hV.2.2.2.2 (by omega) (by omega)).mono ?_
    rintro e w2 ⟨rfl, hb⟩
    replace hS := hS.step hb
    have xb := hS.cell 0 rfl
    have yb := hS.blt 0 rfl
    clear hb
    go_wp2
    go_ret
    exact ⟨ret_int HE.out, hS.bel⟩
  have C0 := szExFrameS_c A5 c5 x.frames left
  rw [lft_le k0] at C0
  have C1 := szExRecS_c A6 c6 x.recs (left - (sumOf msExFrame x.frames : Int))
  rw [lft_le k1] at C1
  have g0 : 0 ≤ left - (sumOf msExFrame x.frames : Int) := by omega
  have g1 : 0 ≤ left - (sumOf msExFrame x.frames : Int) - (sumOf msExRec x.recs : Int) := by omega
  have HE := Lib.hid (show left - (sumOf msExFrame x.frames : Int) - (sumOf msExRec x.recs : Int) = lft (msExit x) left by unfold msExit; rw [lft_le (by omega)]; omega)
  go_enter Tryz.func127, Tryz.ntmps127
  go_wp2_with fail
  refine (C0 _ (r5.below hS.bel) hV.2.2.1.1 hV.2.2.1.2 (by omega) (by omega)).mono ?_
  rintro e w1 ⟨rfl, hb⟩
  replace hS := hS.step hb
  have xb := hS.cell 0 rfl
  have yb := hS.blt 0 rfl
  clear hb
  go_wp2_with fail
  refine (C1 _ (r6.below hS.bel) hV.2.2.2.1 hV.2.2.2.2 (by omega) (by omega)).mono ?_
  rintro e w2 ⟨rfl, hb⟩
  replace hS := hS.step hb
  have xb := hS.cell 0 rfl
  have yb := hS.blt 0 rfl
  clear hb
  go_wp2
  go_ret
  exact ⟨ret_int HE.out, hS.bel⟩
set_option maxHeartbeats 4000000 in
set_option maxRecDepth 100000 in
theorem szExitS_c (A : Option Addr) (c : Nat) (l : List DExit) (left : Int) (w : World) (hr : kExit.Row w A l.length l) (hm : l.length ≤ maxLen) (hv : ∀ x ∈ l, VExit x) (h0 : 0 ≤ left) (h1 : left ≤ 1048576) : Calls Tryz.prog 57 #[.slice A l.length c, .int .i64 left] w fun e w' => e = .returned (.int .i64 (lft (sumOf msExit l) left)) ∧ Below w.heap.size w w' := by
  unfold maxLen at hm
  by_cases h : (l.length : Int) ≤ left
  · have h2 : 0 ≤ left - (l.length : Int) := by omega
    go_enter Tryz.func57, Tryz.ntmps57
    go_wp2
    go_loopw [1, 5] (fun u i wr => ∃ k s : Nat, k ≤ l.length ∧ i = .int .i64 k ∧ Hid (s = ((l.take k).map msExit).sum) ∧ u = .int .i64 (left - l.length - s) ∧ 0 ≤ left - l.length - s ∧ Below w.heap.size w wr) (fun _ i _ => l.length - (intOf i).toNat)
    case atStart => exact ⟨0, 0, by omega, rfl, rfl, by simp, by simpa using h2, Below.refl _ _⟩
    case round =>
      obtain ⟨k, s, hk, rfl, hs, rfl, hp, hb⟩ := hrel
      by_cases hlt : k < l.length
      · obtain ⟨x, hx⟩ := get_ex l k hlt
        have hV := hv x (List.mem_of_getElem? hx)
        have hsn := sum_snoc msExit l k x hx
        have hle := sum_le msExit l (k + 1)
        obtain ⟨ad, A5y, A6y, c5y, c6y, rfl, q0, q1, q2, q3, q4, q5, q6, hl5, hr5, hl6, hr6⟩ := kExit_at (hr.below hb) k x hx
        have HX := Lib.hid hx
        clear hx
        have C := szExit_c A5y A6y c5y c6y x (left - l.length - s)
        have HV := Lib.hid hV
        clear hV
        by_cases hf : (msExit x : Int) ≤ left - l.length - s
        · have HS : Hid (s + msExit x = ((l.take (k + 1)).map msExit).sum) := Lib.hid (by rw [hsn, ← hs.out])
          have e : lft (msExit x) (left - l.length - s) = left - l.length - ((s + msExit x : Nat) : Int) := by simp [lft, hf]; omega
          rw [e] at C
          have hp2 : 0 ≤ left - (l.length : Int) - ((s + msExit x : Nat) : Int) := by omega
          clear hsn hle hf e
          generalize s + msExit x = s2 at C HS hp2
          go_wp2_with fail
          refine (C _ hr5 hr6 HV.out (by omega) (by omega)).mono ?_
          rintro e w' ⟨rfl, hb2⟩
          go_wp2
          go_roundw
          case rel => exact ⟨k + 1, s2, by omega, by go_num, HS, rfl, hp2, bl9⟩
          case measure => simp [intOf]; omega
        · have e : lft (msExit x) (left - l.length - s) = -1 := by simp [lft]; omega
          rw [e] at C
          have hend : lft (sumOf msExit l) left = -1 := by
            have h3 := hs.out
            simp [lft, sumOf]
            omega
          have HE := Lib.hid hend
          clear hsn hle e hend
          go_wp2_with fail
          refine (C _ hr5 hr6 HV.out (by omega) (by omega)).mono ?_
          rintro e w' ⟨rfl, hb2⟩
          go_wp2
          go_ret
          exact ⟨ret_int HE.out.symm, bl9⟩
      · have hend : lft (sumOf msExit l) left = left - l.length - s := by
          have h3 := hs.out
          rw [List.take_of_length_le (by omega)] at h3
          simp only [lft, sumOf, ← h3]
          rw [if_pos (by omega)]
          omega
        have HE := Lib.hid hend
        clear hend
        go_wp2
        go_ret
        exact ⟨ret_int HE.out.symm, hb⟩
  · have h2 : left - (l.length : Int) < 0 := by omega
    go_enter Tryz.func57, Tryz.ntmps57
    go_wp2
    go_ret
    exact ⟨by simp [lft, sumOf]; omega, Below.refl _ _⟩
theorem infoExit : (Tryz.prog.info? 168).map (fun i => (i.zero, i.size, i.bytes)) = some (some (.agg #[.int .i64 0, .int .i64 0, .int .i64 0, .int .i64 0, .int .i64 0, .slice none 0 0, .slice none 0 0]), 7, 88) := by kernel_rfl
set_option maxHeartbeats 4000000 in
set_option maxRecDepth 100000 in
theorem toExit_c (A5 A6 : Option Addr) (c5 c6 : Nat) (x : DExit) (w : World) (r5 : kExFrame.Row w A5 x.frames.length x.frames) (r6 : kExRec.Row w A6 x.recs.length x.recs) (hM : MExit x) : Calls Tryz.prog 132 #[.agg #[.int .i64 x.kind, .int .i64 x.spec.fn, .int .i64 x.spec.pc, .int .i64 x.spec.kind, .int .i64 x.spec.target, .slice A5 x.frames.length c5, .slice A6 x.recs.length c6]] w (fun en w' => ∃ (v5 v6 : Value) (F5 F6 : List Nat), en = .returned (.agg #[.int .i64 x.kind, .int .i64 x.spec.fn, .int .i64 x.spec.pc, .int .i64 x.spec.kind, .int .i64 x.spec.target, v5, v6]) ∧ St w [Res.own kExFrame 171 v5 x.frames F5, Res.own kExRec 174 v6 x.recs F6] w') := by
  go_enter Tryz.func132, Tryz.ntmps132
  go_wp2_with fail
  refine (toSpec_c x.spec _).mono ?_
  rintro e w1 ⟨rfl, hb1⟩
  obtain ⟨hc1, hf1⟩ := bcell hb1
  have hz1 := hb1.size
  simp at hz1
  have y10 : w.heap.size < w1.heap.size := by omega
  have y11 : w.heap.size + 1 < w1.heap.size := by omega
  have y12 : w.heap.size + 1 + 1 < w1.heap.size := by omega
  have hW1 : Below w.heap.size w w1 := bl9
  go_wp2_with fail
  refine (toExFrameS_c A5 c5 x.frames _ (r5.below bl9) hM.1).mono ?_
  rintro e w2 ⟨v5, F5, rfl, ho5, hnd5, hF5, hb2⟩
  obtain ⟨Av5, cv5, rfl, _, _⟩ := ho5.row
  obtain ⟨hc2, hf2⟩ := bcell hb2
  have hz2 := hb2.size
  simp at hz2
  have y20 : w.heap.size < w2.heap.size := by omega
  have y21 : w.heap.size + 1 < w2.heap.size := by omega
  have y22 : w.heap.size + 1 + 1 < w2.heap.size := by omega
  have hG5 : ∀ g ∈ F5, w.heap.size + 3 ≤ g := fun g hg => by have := hF5 g hg; simp at this; omega
  have hl5 := ho5.lt
  have hW2 : Below w.heap.size w w2 := bl9
  go_wp2_with fail
  refine (toExRecS_c A6 c6 x.recs _ (r6.below bl9) hM.2).mono ?_
  rintro e w3 ⟨v6, F6, rfl, ho6, hnd6, hF6, hb3⟩
  obtain ⟨Av6, cv6, rfl, _, _⟩ := ho6.row
  obtain ⟨hc3, hf3⟩ := bcell hb3
  have hz3 := hb3.size
  simp at hz3
  have y30 : w.heap.size < w3.heap.size := by omega
  have y31 : w.heap.size + 1 < w3.heap.size := by omega
  have y32 : w.heap.size + 1 + 1 < w3.heap.size := by omega
  have hG6 : ∀ g ∈ F6, w.heap.size + 3 ≤ g := fun g hg => by have := hF6 g hg; simp at this; omega
  have hl6 := ho6.lt
  have hd6_5 : ∀ g ∈ F6, g ∉ F5 := fun g hg hm => by have h8 := hl5 g hm; have h9 := hF6 g hg; simp at h9; omega
  have hW3 : Below w.heap.size w w3 := bl9
  go_wp2
  refine bodyPost_ret (v := .agg #[.int .i64 x.kind, .int .i64 x.spec.fn, .int .i64 x.spec.pc, .int .i64 x.spec.kind, .int .i64 x.spec.target, .slice Av5 x.frames.length cv5, .slice Av6 x.recs.length cv6]) (by simp [results, Tryz.results132, go_sem, *]) rfl ⟨_, _, F5, F6, rfl, ?_⟩
  refine St.cons (St.cons (St.bare bl9) ?_ hnd6 (fun g hg => by have := hG6 g hg; omega) (by simp)) ?_ hnd5 (fun g hg => by have := hG5 g hg; omega) (by simp only [List.forall_mem_cons]; exact ⟨fun g hg hm => hd6_5 g hm hg, by simp⟩)
  · show kExRec.Own 174 _ _ _ _
    repeat (first | (with_reducible exact ho6) | (refine Knd.Own.set_old ?_ hG6 (by dsimp only; omega) _) | (refine Knd.Own.below ?_ hb3) | (refine Knd.Own.below ?_ hb2) | (refine Knd.Own.below ?_ hb1))
  · show kExFrame.Own 171 _ _ _ _
    repeat (first | (with_reducible exact ho5) | (refine Knd.Own.set_old ?_ hG5 (by dsimp only; omega) _) | (refine Knd.Own.below ?_ hb3) | (refine Knd.Own.below ?_ hb2) | (refine Knd.Own.below ?_ hb1))
theorem zExit_O (w : World) : kExit.O w zExit (Value.agg #[.int .i64 0, .int .i64 0, .int .i64 0, .int .i64 0, .int .i64 0, .slice none 0 0, .slice none 0 0]).cells.toList [] := kExit_Oi.2 ⟨.slice none 0 0, .slice none 0 0, [], [], rfl, rfl, Knd.Own.nil _ _ _, Knd.Own.nil _ _ _⟩
set_option maxHeartbeats 4000000 in
set_option maxRecDepth 100000 in
theorem toExitS_c (A : Option Addr) (c : Nat) (l : List DExit) (w : World) (hr : kExit.Row w A l.length l) (hm : l.length ≤ 1048576 ∧ ∀ y ∈ l, MExit y) : Calls Tryz.prog 63 #[.slice A l.length c] w (NewRow kExit 168 l w) := by
  obtain ⟨hm, hM⟩ := hm
  go_enter Tryz.func63, Tryz.ntmps63
  go_wp2_with (refine Knd.wp_made kExit rfl _ _ _ rfl l.length rfl rfl 168 Tryz.underlying39 (.agg #[.int .i64 0, .int .i64 0, .int .i64 0, .int .i64 0, .int .i64 0, .slice none 0 0, .slice none 0 0]) 88 infoExit rfl (by decide) (by omega) zExit zExit_O (by omega) ?_; rintro g w1 hg ho hb hz; have HG := Lib.hid hg; clear hg)
  have hg0 : w.heap.size ≤ g := Nat.le_of_eq HG.out.symm
  go_loopw [4] (fun i wr => ∃ (k : Nat) (Fs : List (List Nat)), k ≤ l.length ∧ i = .int .i64 k ∧ kExit.OwnF 168 wr (.slice (some ⟨g, 0, none⟩) l.length l.length) (l.take k ++ List.replicate (l.length - k) zExit) Fs ∧ Hid ((g :: Fs.flatten).Nodup ∧ (∀ q ∈ Fs.flatten, w.heap.size ≤ q)) ∧ Below w.heap.size w wr) (fun i _ => l.length - (intOf i).toNat)
  case atStart => exact ⟨0, List.replicate l.length [], by omega, rfl, by simpa using ho, ⟨by simp [rep_flat], by simp [rep_flat]⟩, hb⟩
  case round =>
    obtain ⟨k, Fs, hk, rfl, ho, hN, hb⟩ := hrel
    by_cases hlt : k < l.length
    · obtain ⟨x, hx⟩ := get_exT l k hlt
      obtain ⟨ad, A5y, A6y, c5y, c6y, rfl, q0, q1, q2, q3, q4, q5, q6, hl5, hr5, hl6, hr6⟩ := kExit_at (hr.below hb) k x hx
      have hMx := hM x (List.mem_of_getElem? hx)
      have hp := part_set l zExit x k hx
      have hle : k < (l.take k ++ List.replicate (l.length - k) zExit).length := by simp; omega
      have hlen : (l.take k ++ List.replicate (l.length - k) zExit).length = l.length := by simp; omega
      have hFl : Fs.length = l.length := ho.len.trans hlen
      have HF := Lib.hid hFl
      clear hFl
      have HP := Lib.hid hp
      have HX := Lib.hid hx
      have HL := Lib.hid hlen
      clear hp hx hlen
      have C := toExit_c A5y A6y c5y c6y x wr hr5 hr6 hMx
      go_wp2_with fail
      refine C.mono ?_
      rintro e w' ⟨v5, v6, F5, F6, rfl, hS2⟩
      obtain ⟨Av5, cv5, rfl, _, _⟩ := hS2.row 0 rfl
      obtain ⟨Av6, cv6, rfl, _, _⟩ := hS2.row 1 rfl
      have hb2 := hS2.bel
      have ho2 := ho.below hb2
      obtain ⟨u0, s0⟩ := ho2.cell (k * 7) (by rw [HL.out]; show _ < l.length * 7; omega)
      have f0 := ho2.free (k * 7)
      obtain ⟨u1, s1⟩ := ho2.cell (k * 7 + 1) (by rw [HL.out]; show _ < l.length * 7; omega)
      have f1 := ho2.free (k * 7 + 1)
      obtain ⟨u2, s2⟩ := ho2.cell (k * 7 + 2) (by rw [HL.out]; show _ < l.length * 7; omega)
      have f2 := ho2.free (k * 7 + 2)
      obtain ⟨u3, s3⟩ := ho2.cell (k * 7 + 3) (by rw [HL.out]; show _ < l.length * 7; omega)
      have f3 := ho2.free (k * 7 + 3)
      obtain ⟨u4, s4⟩ := ho2.cell (k * 7 + 4) (by rw [HL.out]; show _ < l.length * 7; omega)
      have f4 := ho2.free (k * 7 + 4)
      obtain ⟨u5, s5⟩ := ho2.cell (k * 7 + 5) (by rw [HL.out]; show _ < l.length * 7; omega)
      have f5 := ho2.free (k * 7 + 5)
      obtain ⟨u6, s6⟩ := ho2.cell (k * 7 + 6) (by rw [HL.out]; show _ < l.length * 7; omega)
      have f6 := ho2.free (k * 7 + 6)
      have HS2 := Lib.hid hS2
      clear hS2
      go_wp2
      go_roundw
      case rel =>
        have hlt2 : ∀ q ∈ g :: Fs.flatten, q < wr.heap.size := fun q hq => ho.lt q (by simpa [Value.ownBlock] using hq)
        have hnew : ∀ q ∈ (F5 ++ F6), wr.heap.size ≤ q := fun q hq => by
          have h8 := HS2.out.old
          simp only [List.forall_mem_cons] at h8
          (try simp only [List.mem_append] at hq)
          rcases hq with hq | hq
          · exact h8.1 q hq
          · exact h8.2.1 q hq
        have hnd : ((F5 ++ F6)).Nodup := by have h8 := HS2.out.dis; simpa [Res.own] using h8
        have hd : ∀ q ∈ (F5 ++ F6), q ∉ g :: Fs.flatten := fun q hq hm => by have := hlt2 q hm; have := hnew q hq; omega
        have h1 := ho2.put k hle [.int .i64 x.kind, .int .i64 x.spec.fn, .int .i64 x.spec.pc, .int .i64 x.spec.kind, .int .i64 x.spec.target, .slice Av5 x.frames.length cv5, .slice Av6 x.recs.length cv6] x (F5 ++ F6) (kExit_Oi.2 ⟨_, _, F5, F6, rfl, rfl, HS2.out.get 0 rfl, HS2.out.get 1 rfl⟩) (fun h => hd g h (by simp)) (List.nodup_cons.1 hN.out.1).1
        rw [HP.out] at h1
        refine ⟨k + 1, Fs.set k (F5 ++ F6), by omega, by go_num, h1, ⟨nodup_put (by rw [HF.out]; exact hlt) hN.out.1 hnd hd, fun q hq => ?_⟩, ?_⟩
        · rcases mem_put (by rw [HF.out]; exact hlt) hq with hq | hq
          · have := hnew q hq
            have := hb.size
            omega
          · exact hN.out.2 q hq
        · exact bl9
      case measure => simp [intOf]; omega
    · obtain rfl : k = l.length := by omega
      go_wp2
      go_ret
      have h1 := ho.own
      rw [List.take_length, Nat.sub_self, List.replicate_zero, List.append_nil] at h1
      exact ⟨_, _, rfl, h1, hN.out.1, fun q hq => by
        rcases List.mem_cons.1 hq with rfl | hq
        · exact hg0
        · exact hN.out.2 q hq, hb⟩
set_option maxHeartbeats 4000000 in
set_option maxRecDepth 100000 in
theorem eqExit_c (A5 A6 : Option Addr) (c5 c6 : Nat) (A5z A6z : Option Addr) (c5z c6z : Nat) (x : DExit) (w : World) (r5 : kExFrame.Row w A5 x.frames.length x.frames) (r6 : kExRec.Row w A6 x.recs.length x.recs) (r5z : kExFrame.Row w A5z x.frames.length x.frames) (r6z : kExRec.Row w A6z x.recs.length x.recs) : Calls Tryz.prog 139 #[.agg #[.int .i64 x.kind, .int .i64 x.spec.fn, .int .i64 x.spec.pc, .int .i64 x.spec.kind, .int .i64 x.spec.target, .slice A5 x.frames.length c5, .slice A6 x.recs.length c6], .agg #[.int .i64 x.kind, .int .i64 x.spec.fn, .int .i64 x.spec.pc, .int .i64 x.spec.kind, .int .i64 x.spec.target, .slice A5z x.frames.length c5z, .slice A6z x.recs.length c6z]] w fun e w' => e = .returned (.bool true) ∧ Below w.heap.size w w' := by
  have hS := ((St.start w).made (.cells #[.int .i64 x.kind, .int .i64 x.spec.fn, .int .i64 x.spec.pc, .int .i64 x.spec.kind, .int .i64 x.spec.target, .slice A5 x.frames.length c5, .slice A6 x.recs.length c6] 168 (0, 0))).madeAt (.cells #[.int .i64 x.kind, .int .i64 x.spec.fn, .int .i64 x.spec.pc, .int .i64 x.spec.kind, .int .i64 x.spec.target, .slice A5z x.frames.length c5z, .slice A6z x.recs.length c6z] 168 (0, 0)) (w.heap.size + 1) (by simp)
  go_enter Tryz.func139, Tryz.ntmps139
  go_wp2_with fail
  refine (eqSpec_c x.spec _).mono ?_
  rintro e w1 ⟨rfl, hb⟩
  replace hS := hS.step hb
  have xb := hS.cell 0 rfl
  have xa := hS.cell 1 rfl
  have yb := hS.blt 0 rfl
  have ya := hS.blt 1 rfl
  clear hb
  go_wp2_with fail
  refine (eqExFrameS_c A5 A5z c5 c5z x.frames _ (r5.below hS.bel) (r5z.below hS.bel)).mono ?_
  rintro e w2 ⟨rfl, hb⟩
  replace hS := hS.step hb
  have xb := hS.cell 0 rfl
  have xa := hS.cell 1 rfl
  have yb := hS.blt 0 rfl
  have ya := hS.blt 1 rfl
  clear hb
  go_wp2_with fail
  refine (eqExRecS_c A6 A6z c6 c6z x.recs _ (r6.below hS.bel) (r6z.below hS.bel)).mono ?_
  rintro e w3 ⟨rfl, hb⟩
  replace hS := hS.step hb
  have xb := hS.cell 0 rfl
  have xa := hS.cell 1 rfl
  have yb := hS.blt 0 rfl
  have ya := hS.blt 1 rfl
  clear hb
  go_wp2
  go_ret
  exact ⟨rfl, hS.bel⟩
set_option maxHeartbeats 4000000 in
set_option maxRecDepth 100000 in
theorem eqExitS_c (A B : Option Addr) (c c' : Nat) (l : List DExit) (w : World) (hr : kExit.Row w A l.length l) (hr' : kExit.Row w B l.length l) : Calls Tryz.prog 70 #[.slice A l.length c, .slice B l.length c'] w fun e w' => e = .returned (.bool true) ∧ Below w.heap.size w w' := by
  have hm := hr.2.1
  go_enter Tryz.func70, Tryz.ntmps70
  go_wp2
  go_loopw [5] (fun i wr => ∃ k : Nat, k ≤ l.length ∧ i = .int .i64 k ∧ Below w.heap.size w wr) (fun i _ => l.length - (intOf i).toNat)
  case atStart => exact ⟨0, by omega, rfl, Below.refl _ _⟩
  case round =>
    obtain ⟨k, hk, rfl, hb⟩ := hrel
    by_cases hlt : k < l.length
    · obtain ⟨x, hx⟩ := get_exE l k hlt
      obtain ⟨ady, A5y, A6y, c5y, c6y, rfl, q0, q1, q2, q3, q4, q5, q6, hl5y, hr5y, hl6y, hr6y⟩ := kExit_at (hr.below hb) k x hx
      obtain ⟨adz, A5z, A6z, c5z, c6z, rfl, p0, p1, p2, p3, p4, p5, p6, hl5z, hr5z, hl6z, hr6z⟩ := kExit_at (hr'.below hb) k x hx
      clear hx
      go_wp2
      go_region_held3 (fun w' => w'.cell? (ady.add (k * 7)) = some (.int .i64 x.kind) ∧ w'.cell? ⟨(ady.add (k * 7)).block, (ady.add (k * 7)).off + 1, none⟩ = some (.int .i64 x.spec.fn) ∧ w'.cell? ⟨(ady.add (k * 7)).block, (ady.add (k * 7)).off + 2, none⟩ = some (.int .i64 x.spec.pc) ∧ w'.cell? ⟨(ady.add (k * 7)).block, (ady.add (k * 7)).off + 3, none⟩ = some (.int .i64 x.spec.kind) ∧ w'.cell? ⟨(ady.add (k * 7)).block, (ady.add (k * 7)).off + 4, none⟩ = some (.int .i64 x.spec.target) ∧ w'.cell? ⟨(ady.add (k * 7)).block, (ady.add (k * 7)).off + 5, none⟩ = some (.slice A5y x.frames.length c5y) ∧ w'.cell? ⟨(ady.add (k * 7)).block, (ady.add (k * 7)).off + 6, none⟩ = some (.slice A6y x.recs.length c6y) ∧ w'.cell? (adz.add (k * 7)) = some (.int .i64 x.kind) ∧ w'.cell? ⟨(adz.add (k * 7)).block, (adz.add (k * 7)).off + 1, none⟩ = some (.int .i64 x.spec.fn) ∧ w'.cell? ⟨(adz.add (k * 7)).block, (adz.add (k * 7)).off + 2, none⟩ = some (.int .i64 x.spec.pc) ∧ w'.cell? ⟨(adz.add (k * 7)).block, (adz.add (k * 7)).off + 3, none⟩ = some (.int .i64 x.spec.kind) ∧ w'.cell? ⟨(adz.add (k * 7)).block, (adz.add (k * 7)).off + 4, none⟩ = some (.int .i64 x.spec.target) ∧ w'.cell? ⟨(adz.add (k * 7)).block, (adz.add (k * 7)).off + 5, none⟩ = some (.slice A5z x.frames.length c5z) ∧ w'.cell? ⟨(adz.add (k * 7)).block, (adz.add (k * 7)).off + 6, none⟩ = some (.slice A6z x.recs.length c6z) ∧ Below wr.heap.size wr w') ((refine ⟨?_, ?_, ?_, ?_, ?_, ?_, ?_, ?_, ?_, ?_, ?_, ?_, ?_, ?_, ?_⟩ <;> first | assumption | (go_keep; done) | exact bl9)) (first | (go_at_call 139; refine (eqExit_c _ _ _ _ _ _ _ _ _ _ (hr5y.below bl9) (hr6y.below bl9) (hr5z.below bl9) (hr6z.below bl9)).mono ?_; rintro e w' ⟨rfl, hb2⟩; have q0 := kept hb2 q0; have q1 := kept hb2 q1; have q2 := kept hb2 q2; have q3 := kept hb2 q3; have q4 := kept hb2 q4; have q5 := kept hb2 q5; have q6 := kept hb2 q6; have p0 := kept hb2 p0; have p1 := kept hb2 p1; have p2 := kept hb2 p2; have p3 := kept hb2 p3; have p4 := kept hb2 p4; have p5 := kept hb2 p5; have p6 := kept hb2 p6; have hW2 : Below wr.heap.size wr w' := bl9))
      go_wp2
      go_roundw
      case rel => exact ⟨k + 1, by omega, by go_num, bl9⟩
      case measure => simp [intOf]; omega
    · go_wp2
      go_ret
      exact ⟨rfl, hb⟩
theorem ctOneExit (x : DExit) : ctExit x ≤ 5 * (msExit x + 1) := by
  have h5 := ctLeExFrame x.frames
  have h6 := ctLeExRec x.recs
  unfold ctExit msExit
  try simp only [sumOf] at *
  omega
theorem ctLeExit (l : List DExit) : ctL ctExit l ≤ 5 * sumOf msExit l := ctL_le2 5 ctOneExit l
set_option maxHeartbeats 4000000 in
set_option maxRecDepth 100000 in
theorem markExitS_c (v : Value) (l : List DExit) (k : Int) (F : List Nat) (w : World) (h : kExit.Own 168 w v l F) (hnd : F.Nodup) (h0 : 0 ≤ k) (h1 : k + ctL ctExit l ≤ 1152921504606846976) (hm : l.length ≤ 1048576 ∧ ∀ y ∈ l, MExit y) : Calls Tryz.prog 74 #[v, .int .i64 k] w fun e w' => e = .returned (.int .i64 (k + ctL ctExit l)) ∧ kExit.Own 168 w' v (mkL mkExit ctExit k l) F ∧ But F w w' := by
  have hlm : l.length ≤ 1048576 := hm.1
  by_cases hn : 0 < l.length
  rotate_left
  · have e : l = [] := List.eq_nil_of_length_eq_zero (by omega)
    subst e
    obtain ⟨A, c, rfl, _, _⟩ := h.row
    go_enter Tryz.func74, Tryz.ntmps74
    go_wp2
    go_loopw [1, 5] (fun u i wr => u = .int .i64 k ∧ i = .int .i64 0 ∧ w = wr) (fun _ i _ => 0)
    case atStart => exact ⟨rfl, rfl, rfl⟩
    case round =>
      obtain ⟨rfl, rfl, rfl⟩ := hrel
      go_wp2
      go_ret
      exact ⟨by simp [ctL], h, But.refl _ _⟩
  obtain ⟨g, c, Fs, inner, rfl, hFe, hA0⟩ := h.toAt hnd hn
  subst hFe
  clear h hnd
  go_enter Tryz.func74, Tryz.ntmps74
  go_wp2
  go_loopw [1, 5] (fun u i wr => ∃ (j : Nat) (inner : List Value), j ≤ l.length ∧ u = .int .i64 (k + ctL ctExit (l.take j)) ∧ i = .int .i64 j ∧ kExit.At 168 wr g l.length c (upto mkExit ctExit k l j) Fs inner ∧ But (g :: Fs.flatten) w wr) (fun _ i _ => l.length - (intOf i).toNat)
  case atStart => exact ⟨0, inner, by omega, by simp [ctL], rfl, by rw [upto_0]; exact hA0, But.refl _ _⟩
  case round =>
    clear hA0
    obtain ⟨j, inner, hj, rfl, rfl, hA, hB⟩ := hrel
    by_cases hlt : j < l.length
    rotate_left
    · obtain rfl : j = l.length := by omega
      rw [upto_all] at hA
      rw [List.take_length]
      go_wp2
      go_ret
      exact ⟨rfl, hA.own, hB⟩
    obtain ⟨x, hx⟩ := get_exU l j hlt
    have hset := Lib.hid (upto_set mkExit ctExit k l j x hx)
    have hct := Lib.hid (ctL_snoc ctExit l j x hx)
    have hle := ctL_mem ctExit l j x hx
    have hMx := hm.2 x (List.mem_of_getElem? hx)
    have hul : j < (upto mkExit ctExit k l j).length := by rw [upto_len]; exact hlt
    obtain ⟨Fj, hFj, hO, _⟩ := hA.elem j x (upto_get mkExit ctExit k l j x hx)
    obtain ⟨v5, v6, G5, G6, hseg, hFn, o5, o6⟩ := kExit_Oi.1 hO
    have hFn := hFn.symm
    subst hFn
    have hGl : ∀ q ∈ (G5 ++ G6), q ∈ Fs.flatten := fun q hq => List.mem_flatten.2 ⟨_, List.mem_of_getElem? hFj, hq⟩
    have hne : ∀ q ∈ (G5 ++ G6), q ≠ g := fun q hq => hA.gne q (hGl q hq)
    have hnj : ((G5 ++ G6)).Nodup := (List.pairwise_flatten.1 (List.nodup_cons.1 hA.nd).2).1 _ (List.mem_of_getElem? hFj)
    obtain ⟨hn5, hn6, hdj⟩ := List.nodup_append.1 hnj
    obtain ⟨K, hK⟩ : ∃ K, k + (ctL ctExit (l.take j) : Int) = K := ⟨_, rfl⟩
    have hK0 : 0 ≤ K := by omega
    have hK1 : K + ctExit x ≤ 1152921504606846976 := by omega
    rw [hK]
    have HK := Lib.hid hK
    unfold ctExit at hK1
    have HUL := Lib.hid hul
    have HFJ := Lib.hid hFj
    clear hK hle hO hx
    have c0 : wr.cell? ⟨g, j * 7, none⟩ = some (.int .i64 (x.kind)) := hA.cellj j 0 HUL.out hseg rfl
    have f0 : wr.frozen? ⟨g, j * 7, none⟩ = false := hA.free _
    have c1 : wr.cell? ⟨g, j * 7 + 1, none⟩ = some (.int .i64 (x.spec.fn)) := hA.cellj j 1 HUL.out hseg rfl
    have f1 : wr.frozen? ⟨g, j * 7 + 1, none⟩ = false := hA.free _
    have c2 : wr.cell? ⟨g, j * 7 + 2, none⟩ = some (.int .i64 (x.spec.pc)) := hA.cellj j 2 HUL.out hseg rfl
    have f2 : wr.frozen? ⟨g, j * 7 + 2, none⟩ = false := hA.free _
    have c3 : wr.cell? ⟨g, j * 7 + 3, none⟩ = some (.int .i64 (x.spec.kind)) := hA.cellj j 3 HUL.out hseg rfl
    have f3 : wr.frozen? ⟨g, j * 7 + 3, none⟩ = false := hA.free _
    have c4 : wr.cell? ⟨g, j * 7 + 4, none⟩ = some (.int .i64 (x.spec.target)) := hA.cellj j 4 HUL.out hseg rfl
    have f4 : wr.frozen? ⟨g, j * 7 + 4, none⟩ = false := hA.free _
    have hP1 := hA.put j 0 HUL.out (by decide) (.int .i64 (K)) ({ kind := K, spec := { fn := x.spec.fn, pc := x.spec.pc, kind := x.spec.kind, target := x.spec.target }, frames := x.frames, recs := x.recs } : DExit) (G5 ++ G6) HFJ.out (by rw [hseg]; exact (kExit_Oi.2 ⟨v5, v6, G5, G6, rfl, rfl, o5, o6⟩))
    have hseg1 := (Knd.At.seg_set_same (d := kExit) _ j 0 (.int .i64 (K)) (by decide)).trans (congrArg (fun z => z.set 0 (.int .i64 (K))) hseg)
    have o5_1 : kExFrame.Own 171 (wr.setCell ⟨g, j * 7, none⟩ (.int .i64 (K))) v5 x.frames G5 := o5.frame (fun q hq => Below.heap_setCell _ _ _ q (hne q (by simp [hq])))
    have o6_1 : kExRec.Own 174 (wr.setCell ⟨g, j * 7, none⟩ (.int .i64 (K))) v6 x.recs G6 := o6.frame (fun q hq => Below.heap_setCell _ _ _ q (hne q (by simp [hq])))
    have hB1 := Knd.At.but_put hB (j * 7 + 0) (.int .i64 (K))
    have hP2 := hP1.put j 1 (by rw [List.length_set]; exact HUL.out) (by decide) (.int .i64 (K + 1)) ({ kind := K, spec := { fn := K + 1, pc := x.spec.pc, kind := x.spec.kind, target := x.spec.target }, frames := x.frames, recs := x.recs } : DExit) (G5 ++ G6) HFJ.out (by rw [hseg1]; exact (kExit_Oi.2 ⟨v5, v6, G5, G6, rfl, rfl, o5_1, o6_1⟩))
    rw [List.set_set] at hP2
    have hseg2 := (Knd.At.seg_set_same (d := kExit) _ j 1 (.int .i64 (K + 1)) (by decide)).trans (congrArg (fun z => z.set 1 (.int .i64 (K + 1))) hseg1)
    have o5_2 : kExFrame.Own 171 ((wr.setCell ⟨g, j * 7, none⟩ (.int .i64 (K))).setCell ⟨g, j * 7 + 1, none⟩ (.int .i64 (K + 1))) v5 x.frames G5 := o5_1.frame (fun q hq => Below.heap_setCell _ _ _ q (hne q (by simp [hq])))
    have o6_2 : kExRec.Own 174 ((wr.setCell ⟨g, j * 7, none⟩ (.int .i64 (K))).setCell ⟨g, j * 7 + 1, none⟩ (.int .i64 (K + 1))) v6 x.recs G6 := o6_1.frame (fun q hq => Below.heap_setCell _ _ _ q (hne q (by simp [hq])))
    have hB2 := Knd.At.but_put hB1 (j * 7 + 1) (.int .i64 (K + 1))
    have hP3 := hP2.put j 2 (by rw [List.length_set]; exact HUL.out) (by decide) (.int .i64 (K + 1 + 1)) ({ kind := K, spec := { fn := K + 1, pc := K + 1 + 1, kind := x.spec.kind, target := x.spec.target }, frames := x.frames, recs := x.recs } : DExit) (G5 ++ G6) HFJ.out (by rw [hseg2]; exact (kExit_Oi.2 ⟨v5, v6, G5, G6, rfl, rfl, o5_2, o6_2⟩))
    rw [List.set_set] at hP3
    have hseg3 := (Knd.At.seg_set_same (d := kExit) _ j 2 (.int .i64 (K + 1 + 1)) (by decide)).trans (congrArg (fun z => z.set 2 (.int .i64 (K + 1 + 1))) hseg2)
    have o5_3 : kExFrame.Own 171 (((wr.setCell ⟨g, j * 7, none⟩ (.int .i64 (K))).setCell ⟨g, j * 7 + 1, none⟩ (.int .i64 (K + 1))).setCell ⟨g, j * 7 + 2, none⟩ (.int .i64 (K + 1 + 1))) v5 x.frames G5 := o5_2.frame (fun q hq => Below.heap_setCell _ _ _ q (hne q (by simp [hq])))
    have o6_3 : kExRec.Own 174 (((wr.setCell ⟨g, j * 7, none⟩ (.int .i64 (K))).setCell ⟨g, j * 7 + 1, none⟩ (.int .i64 (K + 1))).setCell ⟨g, j * 7 + 2, none⟩ (.int .i64 (K + 1 + 1))) v6 x.recs G6 := o6_2.frame (fun q hq => Below.heap_setCell _ _ _ q (hne q (by simp [hq])))
    have hB3 := Knd.At.but_put hB2 (j * 7 + 2) (.int .i64 (K + 1 + 1))
    have hP4 := hP3.put j 3 (by rw [List.length_set]; exact HUL.out) (by decide) (.int .i64 (K + 1 + 1 + 1)) ({ kind := K, spec := { fn := K + 1, pc := K + 1 + 1, kind := K + 1 + 1 + 1, target := x.spec.target }, frames := x.frames, recs := x.recs } : DExit) (G5 ++ G6) HFJ.out (by rw [hseg3]; exact (kExit_Oi.2 ⟨v5, v6, G5, G6, rfl, rfl, o5_3, o6_3⟩))
    rw [List.set_set] at hP4
    have hseg4 := (Knd.At.seg_set_same (d := kExit) _ j 3 (.int .i64 (K + 1 + 1 + 1)) (by decide)).trans (congrArg (fun z => z.set 3 (.int .i64 (K + 1 + 1 + 1))) hseg3)
    have o5_4 : kExFrame.Own 171 ((((wr.setCell ⟨g, j * 7, none⟩ (.int .i64 (K))).setCell ⟨g, j * 7 + 1, none⟩ (.int .i64 (K + 1))).setCell ⟨g, j * 7 + 2, none⟩ (.int .i64 (K + 1 + 1))).setCell ⟨g, j * 7 + 3, none⟩ (.int .i64 (K + 1 + 1 + 1))) v5 x.frames G5 := o5_3.frame (fun q hq => Below.heap_setCell _ _ _ q (hne q (by simp [hq])))
    have o6_4 : kExRec.Own 174 ((((wr.setCell ⟨g, j * 7, none⟩ (.int .i64 (K))).setCell ⟨g, j * 7 + 1, none⟩ (.int .i64 (K + 1))).setCell ⟨g, j * 7 + 2, none⟩ (.int .i64 (K + 1 + 1))).setCell ⟨g, j * 7 + 3, none⟩ (.int .i64 (K + 1 + 1 + 1))) v6 x.recs G6 := o6_3.frame (fun q hq => Below.heap_setCell _ _ _ q (hne q (by simp [hq])))
    have hB4 := Knd.At.but_put hB3 (j * 7 + 3) (.int .i64 (K + 1 + 1 + 1))
    have hP5 := hP4.put j 4 (by rw [List.length_set]; exact HUL.out) (by decide) (.int .i64 (K + 1 + 1 + 1 + 1)) ({ kind := K, spec := { fn := K + 1, pc := K + 1 + 1, kind := K + 1 + 1 + 1, target := K + 1 + 1 + 1 + 1 }, frames := x.frames, recs := x.recs } : DExit) (G5 ++ G6) HFJ.out (by rw [hseg4]; exact (kExit_Oi.2 ⟨v5, v6, G5, G6, rfl, rfl, o5_4, o6_4⟩))
    rw [List.set_set] at hP5
    have hseg5 := (Knd.At.seg_set_same (d := kExit) _ j 4 (.int .i64 (K + 1 + 1 + 1 + 1)) (by decide)).trans (congrArg (fun z => z.set 4 (.int .i64 (K + 1 + 1 + 1 + 1))) hseg4)
    have o5_5 : kExFrame.Own 171 (((((wr.setCell ⟨g, j * 7, none⟩ (.int .i64 (K))).setCell ⟨g, j * 7 + 1, none⟩ (.int .i64 (K + 1))).setCell ⟨g, j * 7 + 2, none⟩ (.int .i64 (K + 1 + 1))).setCell ⟨g, j * 7 + 3, none⟩ (.int .i64 (K + 1 + 1 + 1))).setCell ⟨g, j * 7 + 4, none⟩ (.int .i64 (K + 1 + 1 + 1 + 1))) v5 x.frames G5 := o5_4.frame (fun q hq => Below.heap_setCell _ _ _ q (hne q (by simp [hq])))
    have o6_5 : kExRec.Own 174 (((((wr.setCell ⟨g, j * 7, none⟩ (.int .i64 (K))).setCell ⟨g, j * 7 + 1, none⟩ (.int .i64 (K + 1))).setCell ⟨g, j * 7 + 2, none⟩ (.int .i64 (K + 1 + 1))).setCell ⟨g, j * 7 + 3, none⟩ (.int .i64 (K + 1 + 1 + 1))).setCell ⟨g, j * 7 + 4, none⟩ (.int .i64 (K + 1 + 1 + 1 + 1))) v6 x.recs G6 := o6_4.frame (fun q hq => Below.heap_setCell _ _ _ q (hne q (by simp [hq])))
    have hB5 := Knd.At.but_put hB4 (j * 7 + 4) (.int .i64 (K + 1 + 1 + 1 + 1))
    have C6 := markExFrameS_c v5 x.frames (K + 1 + 1 + 1 + 1 + 1) G5 _ o5_5 hn5 (by omega) (by omega) hMx.1
    have cs5 : (((((wr.setCell ⟨g, j * 7, none⟩ (.int .i64 (K))).setCell ⟨g, j * 7 + 1, none⟩ (.int .i64 (K + 1))).setCell ⟨g, j * 7 + 2, none⟩ (.int .i64 (K + 1 + 1))).setCell ⟨g, j * 7 + 3, none⟩ (.int .i64 (K + 1 + 1 + 1))).setCell ⟨g, j * 7 + 4, none⟩ (.int .i64 (K + 1 + 1 + 1 + 1))).cell? ⟨g, j * 7 + 5, none⟩ = some v5 := hP5.cellj j 5 (by rw [List.length_set]; exact HUL.out) hseg5 rfl
    have HP := Lib.hid hP5
    have HG := Lib.hid hseg5
    have HBB := Lib.hid hB5
    have HO5 := Lib.hid o5_5
    have HO6 := Lib.hid o6_5
    try clear hA
    try clear hseg
    try clear hB
    try clear hP1
    try clear hP2
    try clear hP3
    try clear hP4
    try clear hP5
    try clear hP6
    try clear hseg1
    try clear hseg2
    try clear hseg3
    try clear hseg4
    try clear hseg5
    try clear hseg6
    try clear hB1
    try clear hB2
    try clear hB3
    try clear hB4
    try clear hB5
    try clear hB6
    try clear o5
    try clear o6
    try clear o5_1
    try clear o5_2
    try clear o5_3
    try clear o5_4
    try clear o5_5
    try clear o5_6
    try clear o6_1
    try clear o6_2
    try clear o6_3
    try clear o6_4
    try clear o6_5
    try clear o6_6
    go_wp2_with fail
    refine C6.mono ?_
    rintro e w6 ⟨rfl, ho6, hBi6⟩
    clear C6 cs5
    have o6_6 := HO6.out.frame (fun q hq => hBi6.block q (HO6.out.lt q hq) (fun hm => hdj q hm q hq rfl))
    have hT6 := HP.out.turn j (by rw [List.length_set]; exact HUL.out) ({ kind := K, spec := { fn := K + 1, pc := K + 1 + 1, kind := K + 1 + 1 + 1, target := K + 1 + 1 + 1 + 1 }, frames := mkL mkExFrame ctExFrame (K + 1 + 1 + 1 + 1 + 1) x.frames, recs := x.recs } : DExit) (G5 ++ G6) G5 HFJ.out (fun q hq => by simp [hq]) hBi6 (by rw [HG.out]; exact (kExit_Oi.2 ⟨v5, v6, G5, G6, rfl, rfl, ho6, o6_6⟩))
    rw [List.set_set] at hT6
    have hP6 := hT6
    have hseg6 := HG.out
    have hB6 := Knd.At.but_turn HBB.out HFJ.out (fun q hq => by simp [hq]) hBi6
    clear hT6 HP HG HBB HO5 HO6
    have hkz6 : 0 ≤ K + 1 + 1 + 1 + 1 + 1 + (ctL ctExFrame x.frames : Int) := by omega
    have C7 := markExRecS_c v6 x.recs (K + 1 + 1 + 1 + 1 + 1 + ctL ctExFrame x.frames) G6 _ o6_6 hn6 (by omega) (by omega) hMx.2
    have cs6 : w6.cell? ⟨g, j * 7 + 6, none⟩ = some v6 := hP6.cellj j 6 (by rw [List.length_set]; exact HUL.out) hseg6 rfl
    have HP := Lib.hid hP6
    have HG := Lib.hid hseg6
    have HBB := Lib.hid hB6
    have HO5 := Lib.hid ho6
    have HO6 := Lib.hid o6_6
    try clear hA
    try clear hseg
    try clear hB
    try clear hP1
    try clear hP2
    try clear hP3
    try clear hP4
    try clear hP5
    try clear hP6
    try clear hP7
    try clear hseg1
    try clear hseg2
    try clear hseg3
    try clear hseg4
    try clear hseg5
    try clear hseg6
    try clear hseg7
    try clear hB1
    try clear hB2
    try clear hB3
    try clear hB4
    try clear hB5
    try clear hB6
    try clear hB7
    try clear o5
    try clear o6
    try clear o5_1
    try clear o5_2
    try clear o5_3
    try clear o5_4
    try clear o5_5
    try clear o5_6
    try clear o5_7
    try clear o6_1
    try clear o6_2
    try clear o6_3
    try clear o6_4
    try clear o6_5
    try clear o6_6
    try clear o6_7
    go_wp2_with fail
    refine C7.mono ?_
    rintro e w7 ⟨rfl, ho7, hBi7⟩
    clear C7 cs6
    have o5_7 := HO5.out.frame (fun q hq => hBi7.block q (HO5.out.lt q hq) (fun hm => hdj q hq q hm rfl))
    have hT7 := HP.out.turn j (by rw [List.length_set]; exact HUL.out) ({ kind := K, spec := { fn := K + 1, pc := K + 1 + 1, kind := K + 1 + 1 + 1, target := K + 1 + 1 + 1 + 1 }, frames := mkL mkExFrame ctExFrame (K + 1 + 1 + 1 + 1 + 1) x.frames, recs := mkL mkExRec ctExRec (K + 1 + 1 + 1 + 1 + 1 + ctL ctExFrame x.frames) x.recs } : DExit) (G5 ++ G6) G6 HFJ.out (fun q hq => by simp [hq]) hBi7 (by rw [HG.out]; exact (kExit_Oi.2 ⟨v5, v6, G5, G6, rfl, rfl, o5_7, ho7⟩))
    rw [List.set_set] at hT7
    have hP7 := hT7
    have hseg7 := HG.out
    have hB7 := Knd.At.but_turn HBB.out HFJ.out (fun q hq => by simp [hq]) hBi7
    clear hT7 HP HG HBB HO5 HO6
    have hkz7 : 0 ≤ K + 1 + 1 + 1 + 1 + 1 + ctL ctExFrame x.frames + (ctL ctExRec x.recs : Int) := by omega
    have HP := Lib.hid hP7
    have HG := Lib.hid hseg7
    have HBB := Lib.hid hB7
    have HO5 := Lib.hid o5_7
    have HO6 := Lib.hid ho7
    try clear hA
    try clear hseg
    try clear hB
    try clear hP1
    try clear hP2
    try clear hP3
    try clear hP4
    try clear hP5
    try clear hP6
    try clear hP7
    try clear hseg1
    try clear hseg2
    try clear hseg3
    try clear hseg4
    try clear hseg5
    try clear hseg6
    try clear hseg7
    try clear hB1
    try clear hB2
    try clear hB3
    try clear hB4
    try clear hB5
    try clear hB6
    try clear hB7
    try clear o5
    try clear o6
    try clear o5_1
    try clear o5_2
    try clear o5_3
    try clear o5_4
    try clear o5_5
    try clear o5_6
    try clear o5_7
    try clear o6_1
    try clear o6_2
    try clear o6_3
    try clear o6_4
    try clear o6_5
    try clear o6_6
    try clear o6_7
    go_wp2
    go_roundw
    case rel =>
      have h9 := HP.out
      rw [show ({ kind := K, spec := { fn := K + 1, pc := K + 1 + 1, kind := K + 1 + 1 + 1, target := K + 1 + 1 + 1 + 1 }, frames := mkL mkExFrame ctExFrame (K + 1 + 1 + 1 + 1 + 1) x.frames, recs := mkL mkExRec ctExRec (K + 1 + 1 + 1 + 1 + 1 + ctL ctExFrame x.frames) x.recs } : DExit) = mkExit (k + ctL ctExit (l.take j)) x from by rw [HK.out]; rfl, hset.out] at h9
      exact ⟨j + 1, _, by omega, by rw [hct.out, ← HK.out]; simp [ctExit]; omega, by go_num, h9, HBB.out⟩
    case measure => simp [intOf]; omega
end Go.Proofs.YthinhlcfpaaldaaGreat.Dat
