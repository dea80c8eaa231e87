/- The laws' own functions over ExRec. Written by a program (recgen.py). -/
import Derived.Test.YthinhlcfpaaldaaGreatK4
import Derived.Test.YthinhlcfpaaldaaGreatGSrc
namespace Go.Proofs.YthinhlcfpaaldaaGreat.Dat
open Go Go.RowKit Go.Proofs.YthinhlcfpaaldaaGreat.Mem
set_option linter.unusedVariables false
set_option linter.unusedSimpArgs false
structure DExRec where
  fields : List DSrc
def zExRec : DExRec := ⟨[]⟩
def kExRec : Knd DExRec := Knd.iso (Knd.slice 269 kSrc) (fun x => (x.fields))
/-- What is handed in meets this. -/
def VExRec (x : DExRec) : Prop := (x.fields.length ≤ maxLen ∧ ∀ y ∈ x.fields, VSrc y)
theorem kExRec_K {w : World} {x : DExRec} {cs : List Value} : kExRec.K w x cs ↔ ∃ (A0 : Option Addr) (c0 : Nat), cs = [.slice A0 x.fields.length c0] ∧ x.fields.length ≤ c0 ∧ kSrc.Row w A0 x.fields.length x.fields := by
  constructor
  · rintro ⟨A_fields, c_fields, rfl, hl_fields, hr_fields⟩
    exact ⟨A_fields, c_fields, rfl, hl_fields, hr_fields⟩
  · rintro ⟨A0, c0, rfl, h0, r0⟩
    exact ⟨A0, c0, rfl, h0, r0⟩
theorem kExRec_at {w : World} {A : Option Addr} {m : Nat} {xs : List DExRec} (h : kExRec.Row w A m xs) (i : Nat) (x : DExRec) (hx : xs[i]? = some x) : ∃ (ad : Addr) (A0 : Option Addr) (c0 : Nat), A = some ad ∧ w.cell? (ad.add (i * 1)) = some (.slice A0 x.fields.length c0) ∧ x.fields.length ≤ c0 ∧ kSrc.Row w A0 x.fields.length x.fields := by
  obtain ⟨ad, c, e, hK, hc0⟩ := h.get i x hx
  have hc : ∀ j u, c[j]? = some u → w.cell? (ad.add (i * 1 + j)) = some u := hc0
  obtain ⟨A0, c0, rfl, h0, r0⟩ := kExRec_K.1 hK
  exact ⟨ad, A0, c0, e, hc 0 _ rfl, h0, r0⟩
def ctExRec (x : DExRec) : Nat := 0 + ctL ctSrc x.fields
def mkExRec (k : Int) (x : DExRec) : DExRec := { fields := mkL mkSrc ctSrc (k) x.fields }
theorem kExRec_Oi {w : World} {x : DExRec} {cs : List Value} {F : List Nat} : kExRec.O w x cs F ↔ ∃ (v0 : Value) (F0 : List Nat), cs = [v0] ∧ F = F0 ∧ kSrc.Own 269 w v0 x.fields F0 := by
  constructor
  · rintro ⟨v0, rfl, o0⟩
    exact ⟨v0, _, rfl, by simp, o0⟩
  · rintro ⟨v0, F0, rfl, rfl, o0⟩
    exact ⟨v0, rfl, o0⟩
def msExRec (x : DExRec) : Nat := sumOf msSrc x.fields
/-- What a small measure gives. -/
def MExRec (x : DExRec) : Prop := (x.fields.length ≤ 1048576 ∧ ∀ y ∈ x.fields, MSrc y)
theorem MExRec_of {x : DExRec} (h : msExRec x ≤ 1048576) : MExRec x := by
  unfold msExRec at h
  try simp only [sumOf] at h
  unfold MExRec
  exact ⟨by omega, fun y hy => by have h9 := mem_sum msSrc _ y hy; exact MSrc_of (by omega)⟩
set_option maxHeartbeats 4000000 in
set_option maxRecDepth 100000 in
theorem szExRec_c (A0 : Option Addr) (c0 : Nat) (x : DExRec) (left : Int) (w : World) (r0 : kSrc.Row w A0 x.fields.length x.fields) (hV : VExRec x) (h0 : 0 ≤ left) (h1 : left ≤ 1048576) : Calls Tryz.prog 273 #[.agg #[.slice A0 x.fields.length c0], .int .i64 left] w fun e w' => e = .returned (.int .i64 (lft (msExRec x) left)) ∧ Below w.heap.size w w' := by
  have hS := (St.start w).made (.cells #[.slice A0 x.fields.length c0] 340 (0, 0))
  by_cases k0 : ((sumOf msSrc x.fields : Nat) : Int) ≤ left
  rotate_left
  · skip
    have C0 := szSrcS_c A0 c0 x.fields left
    rw [lft_gt (by omega)] at C0
    have HE := Lib.hid (show (-1 : Int) = lft (msExRec x) left by unfold msExRec; rw [lft_gt (by omega)])
    go_enter Tryz.func273, Tryz.ntmps273
    go_wp2_with fail
    refine (C0 _ (r0.below hS.bel) hV.1 hV.2 (by omega) (by omega)).mono ?_
    rintro e w1 ⟨rfl, hb⟩
    replace hS := hS.step hb
    have xb := hS.cell 0 rfl
    have yb := hS.blt 0 rfl
    clear hb
    go_wp2
    go_ret
    exact ⟨ret_int HE.out, hS.bel⟩
  have C0 := szSrcS_c A0 c0 x.fields left
  rw [lft_le k0] at C0
  have g0 : 0 ≤ left - (sumOf msSrc x.fields : Int) := by omega
  have HE := Lib.hid (show left - (sumOf msSrc x.fields : Int) = lft (msExRec x) left by unfold msExRec; rw [lft_le (by omega)])
  go_enter Tryz.func273, Tryz.ntmps273
  go_wp2_with fail
  refine (C0 _ (r0.below hS.bel) hV.1 hV.2 (by omega) (by omega)).mono ?_
  rintro e w1 ⟨rfl, hb⟩
  replace hS := hS.step hb
  have xb := hS.cell 0 rfl
  have yb := hS.blt 0 rfl
  clear hb
  go_wp2
  go_ret
  exact ⟨ret_int HE.out, hS.bel⟩
set_option maxHeartbeats 4000000 in
set_option maxRecDepth 100000 in
theorem szExRecS_c (A : Option Addr) (c : Nat) (l : List DExRec) (left : Int) (w : World) (hr : kExRec.Row w A l.length l) (hm : l.length ≤ maxLen) (hv : ∀ x ∈ l, VExRec x) (h0 : 0 ≤ left) (h1 : left ≤ 1048576) : Calls Tryz.prog 207 #[.slice A l.length c, .int .i64 left] w fun e w' => e = .returned (.int .i64 (lft (sumOf msExRec l) left)) ∧ Below w.heap.size w w' := by
  unfold maxLen at hm
  by_cases h : (l.length : Int) ≤ left
  · have h2 : 0 ≤ left - (l.length : Int) := by omega
    go_enter Tryz.func207, Tryz.ntmps207
    go_wp2
    go_loopw [1, 5] (fun u i wr => ∃ k s : Nat, k ≤ l.length ∧ i = .int .i64 k ∧ Hid (s = ((l.take k).map msExRec).sum) ∧ u = .int .i64 (left - l.length - s) ∧ 0 ≤ left - l.length - s ∧ Below w.heap.size w wr) (fun _ i _ => l.length - (intOf i).toNat)
    case atStart => exact ⟨0, 0, by omega, rfl, rfl, by simp, by simpa using h2, Below.refl _ _⟩
    case round =>
      obtain ⟨k, s, hk, rfl, hs, rfl, hp, hb⟩ := hrel
      by_cases hlt : k < l.length
      · obtain ⟨x, hx⟩ := get_ex l k hlt
        have hV := hv x (List.mem_of_getElem? hx)
        have hsn := sum_snoc msExRec l k x hx
        have hle := sum_le msExRec l (k + 1)
        obtain ⟨ad, A0y, c0y, rfl, q0, hl0, hr0⟩ := kExRec_at (hr.below hb) k x hx
        rw [Nat.mul_one] at q0
        have HX := Lib.hid hx
        clear hx
        have C := szExRec_c A0y c0y x (left - l.length - s)
        have HV := Lib.hid hV
        clear hV
        by_cases hf : (msExRec x : Int) ≤ left - l.length - s
        · have HS : Hid (s + msExRec x = ((l.take (k + 1)).map msExRec).sum) := Lib.hid (by rw [hsn, ← hs.out])
          have e : lft (msExRec x) (left - l.length - s) = left - l.length - ((s + msExRec x : Nat) : Int) := by simp [lft, hf]; omega
          rw [e] at C
          have hp2 : 0 ≤ left - (l.length : Int) - ((s + msExRec x : Nat) : Int) := by omega
          clear hsn hle hf e
          generalize s + msExRec x = s2 at C HS hp2
          go_wp2_with fail
          refine (C _ hr0 HV.out (by omega) (by omega)).mono ?_
          rintro e w' ⟨rfl, hb2⟩
          go_wp2
          go_roundw
          case rel => exact ⟨k + 1, s2, by omega, by go_num, HS, rfl, hp2, bl9⟩
          case measure => simp [intOf]; omega
        · have e : lft (msExRec x) (left - l.length - s) = -1 := by simp [lft]; omega
          rw [e] at C
          have hend : lft (sumOf msExRec l) left = -1 := by
            have h3 := hs.out
            simp [lft, sumOf]
            omega
          have HE := Lib.hid hend
          clear hsn hle e hend
          go_wp2_with fail
          refine (C _ hr0 HV.out (by omega) (by omega)).mono ?_
          rintro e w' ⟨rfl, hb2⟩
          go_wp2
          go_ret
          exact ⟨ret_int HE.out.symm, bl9⟩
      · have hend : lft (sumOf msExRec l) left = left - l.length - s := by
          have h3 := hs.out
          rw [List.take_of_length_le (by omega)] at h3
          simp only [lft, sumOf, ← h3]
          rw [if_pos (by omega)]
          omega
        have HE := Lib.hid hend
        clear hend
        go_wp2
        go_ret
        exact ⟨ret_int HE.out.symm, hb⟩
  · have h2 : left - (l.length : Int) < 0 := by omega
    go_enter Tryz.func207, Tryz.ntmps207
    go_wp2
    go_ret
    exact ⟨by simp [lft, sumOf]; omega, Below.refl _ _⟩
theorem infoExRec : (Tryz.prog.info? 174).map (fun i => (i.zero, i.size, i.bytes)) = some (some (.agg #[.slice none 0 0]), 1, 24) := by kernel_rfl
set_option maxHeartbeats 4000000 in
set_option maxRecDepth 100000 in
theorem toExRec_c (A0 : Option Addr) (c0 : Nat) (x : DExRec) (w : World) (r0 : kSrc.Row w A0 x.fields.length x.fields) (hM : MExRec x) : Calls Tryz.prog 287 #[.agg #[.slice A0 x.fields.length c0]] w (fun en w' => ∃ (v0 : Value) (F0 : List Nat), en = .returned (.agg #[v0]) ∧ St w [Res.own kSrc 269 v0 x.fields F0] w') := by
  go_enter Tryz.func287, Tryz.ntmps287
  go_wp2_with fail
  refine (toSrcS_c A0 c0 x.fields _ (r0.below bl9) hM).mono ?_
  rintro e w1 ⟨v0, F0, rfl, ho0, hnd0, hF0, hb1⟩
  obtain ⟨Av0, cv0, rfl, _, _⟩ := ho0.row
  obtain ⟨hc1, hf1⟩ := bcell hb1
  have hz1 := hb1.size
  simp at hz1
  have y10 : w.heap.size < w1.heap.size := by omega
  have y11 : w.heap.size + 1 < w1.heap.size := by omega
  have y12 : w.heap.size + 1 + 1 < w1.heap.size := by omega
  have hG0 : ∀ g ∈ F0, w.heap.size + 3 ≤ g := fun g hg => by have := hF0 g hg; simp at this; omega
  have hl0 := ho0.lt
  have hW1 : Below w.heap.size w w1 := bl9
  go_wp2
  refine bodyPost_ret (v := .agg #[.slice Av0 x.fields.length cv0]) (by simp [results, Tryz.results287, go_sem, *]) rfl ⟨_, F0, rfl, ?_⟩
  refine St.cons (St.bare bl9) ?_ hnd0 (fun g hg => by have := hG0 g hg; omega) (by simp)
  · show kSrc.Own 269 _ _ _ _
    repeat (first | (with_reducible exact ho0) | (refine Knd.Own.set_old ?_ hG0 (by dsimp only; omega) _) | (refine Knd.Own.below ?_ hb1))
theorem zExRec_O (w : World) : kExRec.O w zExRec (Value.agg #[.slice none 0 0]).cells.toList [] := kExRec_Oi.2 ⟨.slice none 0 0, [], rfl, rfl, Knd.Own.nil _ _ _⟩
set_option maxHeartbeats 4000000 in
set_option maxRecDepth 100000 in
theorem toExRecS_c (A : Option Addr) (c : Nat) (l : List DExRec) (w : World) (hr : kExRec.Row w A l.length l) (hm : l.length ≤ 1048576 ∧ ∀ y ∈ l, MExRec y) : Calls Tryz.prog 215 #[.slice A l.length c] w (NewRow kExRec 174 l w) := by
  obtain ⟨hm, hM⟩ := hm
  go_enter Tryz.func215, Tryz.ntmps215
  go_wp2_with (refine Knd.wp_made kExRec rfl _ _ _ rfl l.length rfl rfl 174 Tryz.underlying166 (.agg #[.slice none 0 0]) 24 infoExRec rfl (by decide) (by omega) zExRec zExRec_O (by omega) ?_; rintro g w1 hg ho hb hz; have HG := Lib.hid hg; clear hg)
  have hg0 : w.heap.size ≤ g := Nat.le_of_eq HG.out.symm
  go_loopw [4] (fun i wr => ∃ (k : Nat) (Fs : List (List Nat)), k ≤ l.length ∧ i = .int .i64 k ∧ kExRec.OwnF 174 wr (.slice (some ⟨g, 0, none⟩) l.length l.length) (l.take k ++ List.replicate (l.length - k) zExRec) Fs ∧ Hid ((g :: Fs.flatten).Nodup ∧ (∀ q ∈ Fs.flatten, w.heap.size ≤ q)) ∧ Below w.heap.size w wr) (fun i _ => l.length - (intOf i).toNat)
  case atStart => exact ⟨0, List.replicate l.length [], by omega, rfl, by simpa using ho, ⟨by simp [rep_flat], by simp [rep_flat]⟩, hb⟩
  case round =>
    obtain ⟨k, Fs, hk, rfl, ho, hN, hb⟩ := hrel
    by_cases hlt : k < l.length
    · obtain ⟨x, hx⟩ := get_exT l k hlt
      obtain ⟨ad, A0y, c0y, rfl, q0, hl0, hr0⟩ := kExRec_at (hr.below hb) k x hx
      rw [Nat.mul_one] at q0
      have hMx := hM x (List.mem_of_getElem? hx)
      have hp := part_set l zExRec x k hx
      have hle : k < (l.take k ++ List.replicate (l.length - k) zExRec).length := by simp; omega
      have hlen : (l.take k ++ List.replicate (l.length - k) zExRec).length = l.length := by simp; omega
      have hFl : Fs.length = l.length := ho.len.trans hlen
      have HF := Lib.hid hFl
      clear hFl
      have HP := Lib.hid hp
      have HX := Lib.hid hx
      have HL := Lib.hid hlen
      clear hp hx hlen
      have C := toExRec_c A0y c0y x wr hr0 hMx
      go_wp2_with fail
      refine C.mono ?_
      rintro e w' ⟨v0, F0, rfl, hS2⟩
      obtain ⟨Av0, cv0, rfl, _, _⟩ := hS2.row 0 rfl
      have hb2 := hS2.bel
      have ho2 := ho.below hb2
      obtain ⟨u0, s0⟩ := ho2.cell k (by rw [HL.out]; show _ < l.length * 1; omega)
      have f0 := ho2.free k
      have HS2 := Lib.hid hS2
      clear hS2
      go_wp2
      go_roundw
      case rel =>
        have hlt2 : ∀ q ∈ g :: Fs.flatten, q < wr.heap.size := fun q hq => ho.lt q (by simpa [Value.ownBlock] using hq)
        have hnew : ∀ q ∈ F0, wr.heap.size ≤ q := fun q hq => by
          have h8 := HS2.out.old
          simp only [List.forall_mem_cons] at h8
          (try simp only [List.mem_append] at hq)
          exact h8.1 q hq
        have hnd : (F0).Nodup := by have h8 := HS2.out.dis; simpa [Res.own] using h8
        have hd : ∀ q ∈ F0, q ∉ g :: Fs.flatten := fun q hq hm => by have := hlt2 q hm; have := hnew q hq; omega
        have h1 := ho2.put k hle [.slice Av0 x.fields.length cv0] x F0 (kExRec_Oi.2 ⟨_, F0, rfl, rfl, HS2.out.get 0 rfl⟩) (fun h => hd g h (by simp)) (List.nodup_cons.1 hN.out.1).1
        rw [HP.out] at h1
        have e1 : k * kExRec.sz = k := Nat.mul_one k
        rw [e1] at h1
        refine ⟨k + 1, Fs.set k F0, by omega, by go_num, h1, ⟨nodup_put (by rw [HF.out]; exact hlt) hN.out.1 hnd hd, fun q hq => ?_⟩, ?_⟩
        · rcases mem_put (by rw [HF.out]; exact hlt) hq with hq | hq
          · have := hnew q hq
            have := hb.size
            omega
          · exact hN.out.2 q hq
        · exact bl9
      case measure => simp [intOf]; omega
    · obtain rfl : k = l.length := by omega
      go_wp2
      go_ret
      have h1 := ho.own
      rw [List.take_length, Nat.sub_self, List.replicate_zero, List.append_nil] at h1
      exact ⟨_, _, rfl, h1, hN.out.1, fun q hq => by
        rcases List.mem_cons.1 hq with rfl | hq
        · exact hg0
        · exact hN.out.2 q hq, hb⟩
set_option maxHeartbeats 4000000 in
set_option maxRecDepth 100000 in
theorem eqExRec_c (A0 : Option Addr) (c0 : Nat) (A0z : Option Addr) (c0z : Nat) (x : DExRec) (w : World) (r0 : kSrc.Row w A0 x.fields.length x.fields) (r0z : kSrc.Row w A0z x.fields.length x.fields) : Calls Tryz.prog 315 #[.agg #[.slice A0 x.fields.length c0], .agg #[.slice A0z x.fields.length c0z]] w fun e w' => e = .returned (.bool true) ∧ Below w.heap.size w w' := by
  have hS := ((St.start w).made (.cells #[.slice A0 x.fields.length c0] 174 (0, 0))).madeAt (.cells #[.slice A0z x.fields.length c0z] 174 (0, 0)) (w.heap.size + 1) (by simp)
  go_enter Tryz.func315, Tryz.ntmps315
  go_wp2_with fail
  refine (eqSrcS_c A0 A0z c0 c0z x.fields _ (r0.below hS.bel) (r0z.below hS.bel)).mono ?_
  rintro e w1 ⟨rfl, hb⟩
  replace hS := hS.step hb
  have xb := hS.cell 0 rfl
  have xa := hS.cell 1 rfl
  have yb := hS.blt 0 rfl
  have ya := hS.blt 1 rfl
  clear hb
  go_wp2
  go_ret
  exact ⟨rfl, hS.bel⟩
set_option maxHeartbeats 4000000 in
set_option maxRecDepth 100000 in
theorem eqExRecS_c (A B : Option Addr) (c c' : Nat) (l : List DExRec) (w : World) (hr : kExRec.Row w A l.length l) (hr' : kExRec.Row w B l.length l) : Calls Tryz.prog 229 #[.slice A l.length c, .slice B l.length c'] w fun e w' => e = .returned (.bool true) ∧ Below w.heap.size w w' := by
  have hm := hr.2.1
  go_enter Tryz.func229, Tryz.ntmps229
  go_wp2
  go_loopw [5] (fun i wr => ∃ k : Nat, k ≤ l.length ∧ i = .int .i64 k ∧ Below w.heap.size w wr) (fun i _ => l.length - (intOf i).toNat)
  case atStart => exact ⟨0, by omega, rfl, Below.refl _ _⟩
  case round =>
    obtain ⟨k, hk, rfl, hb⟩ := hrel
    by_cases hlt : k < l.length
    · obtain ⟨x, hx⟩ := get_exE l k hlt
      obtain ⟨ady, A0y, c0y, rfl, q0, hl0y, hr0y⟩ := kExRec_at (hr.below hb) k x hx
      obtain ⟨adz, A0z, c0z, rfl, p0, hl0z, hr0z⟩ := kExRec_at (hr'.below hb) k x hx
      rw [Nat.mul_one] at q0
      rw [Nat.mul_one] at p0
      clear hx
      go_wp2
      go_region_held3 (fun w' => w'.cell? (ady.add k) = some (.slice A0y x.fields.length c0y) ∧ w'.cell? (adz.add k) = some (.slice A0z x.fields.length c0z) ∧ Below wr.heap.size wr w') ((refine ⟨?_, ?_, ?_⟩ <;> first | assumption | (go_keep; done) | exact bl9)) (first | (go_at_call 315; refine (eqExRec_c _ _ _ _ _ _ (hr0y.below bl9) (hr0z.below bl9)).mono ?_; rintro e w' ⟨rfl, hb2⟩; have q0 := kept hb2 q0; have p0 := kept hb2 p0; have hW2 : Below wr.heap.size wr w' := bl9))
      go_wp2
      go_roundw
      case rel => exact ⟨k + 1, by omega, by go_num, bl9⟩
      case measure => simp [intOf]; omega
    · go_wp2
      go_ret
      exact ⟨rfl, hb⟩
theorem ctOneExRec (x : DExRec) : ctExRec x ≤ 5 * (msExRec x + 1) := by
  have h0 := ctLeSrc x.fields
  unfold ctExRec msExRec
  try simp only [sumOf] at *
  omega
theorem ctLeExRec (l : List DExRec) : ctL ctExRec l ≤ 5 * sumOf msExRec l := ctL_le2 5 ctOneExRec l
set_option maxHeartbeats 4000000 in
set_option maxRecDepth 100000 in
theorem markExRecS_c (v : Value) (l : List DExRec) (k : Int) (F : List Nat) (w : World) (h : kExRec.Own 174 w v l F) (hnd : F.Nodup) (h0 : 0 ≤ k) (h1 : k + ctL ctExRec l ≤ 1152921504606846976) (hm : l.length ≤ 1048576 ∧ ∀ y ∈ l, MExRec y) : Calls Tryz.prog 143 #[v, .int .i64 k] w fun e w' => e = .returned (.int .i64 (k + ctL ctExRec l)) ∧ kExRec.Own 174 w' v (mkL mkExRec ctExRec k l) F ∧ But F w w' := by
  have hlm : l.length ≤ 1048576 := hm.1
  by_cases hn : 0 < l.length
  rotate_left
  · have e : l = [] := List.eq_nil_of_length_eq_zero (by omega)
    subst e
    obtain ⟨A, c, rfl, _, _⟩ := h.row
    go_enter Tryz.func143, Tryz.ntmps143
    go_wp2
    go_loopw [1, 5] (fun u i wr => u = .int .i64 k ∧ i = .int .i64 0 ∧ w = wr) (fun _ i _ => 0)
    case atStart => exact ⟨rfl, rfl, rfl⟩
    case round =>
      obtain ⟨rfl, rfl, rfl⟩ := hrel
      go_wp2
      go_ret
      exact ⟨by simp [ctL], h, But.refl _ _⟩
  obtain ⟨g, c, Fs, inner, rfl, hFe, hA0⟩ := h.toAt hnd hn
  subst hFe
  clear h hnd
  go_enter Tryz.func143, Tryz.ntmps143
  go_wp2
  go_loopw [1, 5] (fun u i wr => ∃ (j : Nat) (inner : List Value), j ≤ l.length ∧ u = .int .i64 (k + ctL ctExRec (l.take j)) ∧ i = .int .i64 j ∧ kExRec.At 174 wr g l.length c (upto mkExRec ctExRec k l j) Fs inner ∧ But (g :: Fs.flatten) w wr) (fun _ i _ => l.length - (intOf i).toNat)
  case atStart => exact ⟨0, inner, by omega, by simp [ctL], rfl, by rw [upto_0]; exact hA0, But.refl _ _⟩
  case round =>
    clear hA0
    obtain ⟨j, inner, hj, rfl, rfl, hA, hB⟩ := hrel
    by_cases hlt : j < l.length
    rotate_left
    · obtain rfl : j = l.length := by omega
      rw [upto_all] at hA
      rw [List.take_length]
      go_wp2
      go_ret
      exact ⟨rfl, hA.own, hB⟩
    obtain ⟨x, hx⟩ := get_exU l j hlt
    have hset := Lib.hid (upto_set mkExRec ctExRec k l j x hx)
    have hct := Lib.hid (ctL_snoc ctExRec l j x hx)
    have hle := ctL_mem ctExRec l j x hx
    have hMx := hm.2 x (List.mem_of_getElem? hx)
    have hul : j < (upto mkExRec ctExRec k l j).length := by rw [upto_len]; exact hlt
    obtain ⟨Fj, hFj, hO, _⟩ := hA.elem j x (upto_get mkExRec ctExRec k l j x hx)
    obtain ⟨v0, G0, hseg, hFn, o0⟩ := kExRec_Oi.1 hO
    have hFn := hFn.symm
    subst hFn
    have hGl : ∀ q ∈ G0, q ∈ Fs.flatten := fun q hq => List.mem_flatten.2 ⟨_, List.mem_of_getElem? hFj, hq⟩
    have hne : ∀ q ∈ G0, q ≠ g := fun q hq => hA.gne q (hGl q hq)
    have hnj : (G0).Nodup := (List.pairwise_flatten.1 (List.nodup_cons.1 hA.nd).2).1 _ (List.mem_of_getElem? hFj)
    have hn0 := hnj
    obtain ⟨K, hK⟩ : ∃ K, k + (ctL ctExRec (l.take j) : Int) = K := ⟨_, rfl⟩
    have hK0 : 0 ≤ K := by omega
    have hK1 : K + ctExRec x ≤ 1152921504606846976 := by omega
    rw [hK]
    have HK := Lib.hid hK
    unfold ctExRec at hK1
    have HUL := Lib.hid hul
    have HFJ := Lib.hid hFj
    clear hK hle hO hx
    have C1 := markSrcS_c v0 x.fields (K) G0 _ o0 hn0 (by omega) (by omega) hMx
    have cs0 : wr.cell? ⟨g, j, none⟩ = some v0 := by have h9 := hA.cellj j 0 HUL.out hseg rfl; rwa [show j * kExRec.sz + 0 = j from Nat.mul_one j] at h9
    have HP := Lib.hid hA
    have HG := Lib.hid hseg
    have HBB := Lib.hid hB
    have HO0 := Lib.hid o0
    try clear hA
    try clear hseg
    try clear hB
    try clear hP1
    try clear hseg1
    try clear hB1
    try clear o0
    try clear o0_1
    go_wp2_with fail
    refine C1.mono ?_
    rintro e w1 ⟨rfl, ho1, hBi1⟩
    clear C1 cs0
    have hT1 := HP.out.turn j HUL.out ({ fields := mkL mkSrc ctSrc (K) x.fields } : DExRec) G0 G0 HFJ.out (fun q hq => by simp [hq]) hBi1 (by rw [HG.out]; exact (kExRec_Oi.2 ⟨v0, G0, rfl, rfl, ho1⟩))
    have hP1 := hT1
    have hseg1 := HG.out
    have hB1 := Knd.At.but_turn HBB.out HFJ.out (fun q hq => by simp [hq]) hBi1
    clear hT1 HP HG HBB HO0
    have hkz1 : 0 ≤ K + (ctL ctSrc x.fields : Int) := by omega
    have HP := Lib.hid hP1
    have HG := Lib.hid hseg1
    have HBB := Lib.hid hB1
    have HO0 := Lib.hid ho1
    try clear hA
    try clear hseg
    try clear hB
    try clear hP1
    try clear hseg1
    try clear hB1
    try clear o0
    try clear o0_1
    go_wp2
    go_roundw
    case rel =>
      have h9 := HP.out
      rw [show ({ fields := mkL mkSrc ctSrc (K) x.fields } : DExRec) = mkExRec (k + ctL ctExRec (l.take j)) x from by rw [HK.out]; rfl, hset.out] at h9
      exact ⟨j + 1, _, by omega, by rw [hct.out, ← HK.out]; simp [ctExRec]; omega, by go_num, h9, HBB.out⟩
    case measure => simp [intOf]; omega
end Go.Proofs.YthinhlcfpaaldaaGreat.Dat
