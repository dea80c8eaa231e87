/- All values of a state, and its frames' sizes, in the program. -/
import Derived.Test.YthinhlcfpaaldaaGreatVmI
namespace Go.Proofs.YthinhlcfpaaldaaGreat.Dat
open Go Go.RowKit Go.Proofs.YthinhlcfpaaldaaGreat.Mem
set_option linter.unusedVariables false
set_option linter.unusedSimpArgs false
theorem and_hid {b c e : Bool} {p q : Bool} (h : b = (c && p)) (hq : e = (p && q)) : (b && q) = (c && e) := by rw [h, hq, Bool.and_assoc]
theorem frv_snoc {nf nr : Int} {fs : List DFrame} {k : Nat} {f : DFrame} {ys : List DValue} (hf : fs[k]? = some f) (hy : f.locals ++ f.stack = ys) : frvB nf nr (fs.take (k + 1)) = (frvB nf nr (fs.take k) && ys.all (valB nf nr)) := by
  subst hy
  unfold frvB
  rw [all_snoc _ fs k f hf, List.all_append]
theorem hpv_snoc {nf nr : Int} {fs : List DRec} {k : Nat} {f : DRec} (hf : fs[k]? = some f) : hpvB nf nr (fs.take (k + 1)) = (hpvB nf nr (fs.take k) && f.fields.all (valB nf nr)) := by
  unfold hpvB
  rw [all_snoc _ fs k f hf]
set_option maxHeartbeats 8000000 in
set_option maxRecDepth 100000 in
theorem valuesI {w0 W : World} (A B A0 A1 A3 : Option Addr) (c d c0 c1 c3 g1 g2 g3 nt : Nat) (l : List DFunc) (v : DVm)
    (hS : St w0 [Res.box g1 (.cells #[.bool true] 4 (0, 0)), Res.box g3 (.cells #[.slice A0 v.frames.length c0, .slice A1 v.heap.length c1, .int .i64 v.made, .slice A3 v.out.length c3, .int .i64 v.status, .int .i64 v.trap, .int .i64 v.value.k, .int .i64 v.value.n, .string v.value.s, .int .i64 v.steps] 67 (0, 0)), Res.box g2 (.cells #[.slice A nt c, .slice B l.length d] 36 (0, 0))] W)
    (r0 : kFrame.Row w0 A0 v.frames.length v.frames) (r1 : kRec.Row w0 A1 v.heap.length v.heap) (hM : MVm v) (hl : l.length ≤ 1048576) :
    Calls Tryz.prog 247 #[.agg #[.slice A0 v.frames.length c0, .slice A1 v.heap.length c1, .int .i64 v.made, .slice A3 v.out.length c3, .int .i64 v.status, .int .i64 v.trap, .int .i64 v.value.k, .int .i64 v.value.n, .string v.value.s, .int .i64 v.steps], .func (.func 248) #[] #[.pointer (some ⟨g1, 0, none⟩), .pointer (some ⟨g2, 0, none⟩), .pointer (some ⟨g3, 0, none⟩)]] W fun e w' => e = .returned (.tuple #[]) ∧
      St w0 [Res.box g1 (.cells #[.bool (valsB l v)] 4 (0, 0)), Res.box g3 (.cells #[.slice A0 v.frames.length c0, .slice A1 v.heap.length c1, .int .i64 v.made, .slice A3 v.out.length c3, .int .i64 v.status, .int .i64 v.trap, .int .i64 v.value.k, .int .i64 v.value.n, .string v.value.s, .int .i64 v.steps] 67 (0, 0)), Res.box g2 (.cells #[.slice A nt c, .slice B l.length d] 36 (0, 0))] w' := by
  have hmx : ∀ z : DValue, MValue z → z.s.size ≤ maxLen := fun z h => Nat.le_trans h (by unfold maxLen; omega)
  have hnf := hM.1.1
  have hnh := hM.2.1.1
  have hS0 := hS.made (.cells #[.slice A0 v.frames.length c0, .slice A1 v.heap.length c1, .int .i64 v.made, .slice A3 v.out.length c3, .int .i64 v.status, .int .i64 v.trap, .int .i64 v.value.k, .int .i64 v.value.n, .string v.value.s, .int .i64 v.steps] 67 (0, 0))
  go_enter Tryz.func247, Tryz.ntmps247
  go_wp2
  go_loopw [15] (fun i wr => ∃ (k : Nat) (b : Bool), k ≤ v.frames.length ∧ i = .int .i64 k ∧ Hid (b = frvB l.length v.heap.length (v.frames.take k)) ∧ St w0 [Res.box W.heap.size (.cells #[.slice A0 v.frames.length c0, .slice A1 v.heap.length c1, .int .i64 v.made, .slice A3 v.out.length c3, .int .i64 v.status, .int .i64 v.trap, .int .i64 v.value.k, .int .i64 v.value.n, .string v.value.s, .int .i64 v.steps] 67 (0, 0)), Res.box g1 (.cells #[.bool b] 4 (0, 0)), Res.box g3 (.cells #[.slice A0 v.frames.length c0, .slice A1 v.heap.length c1, .int .i64 v.made, .slice A3 v.out.length c3, .int .i64 v.status, .int .i64 v.trap, .int .i64 v.value.k, .int .i64 v.value.n, .string v.value.s, .int .i64 v.steps] 67 (0, 0)), Res.box g2 (.cells #[.slice A nt c, .slice B l.length d] 36 (0, 0))] wr) (fun i _ => v.frames.length - (intOf i).toNat)
  case atStart => exact ⟨0, true, by omega, rfl, Lib.hid rfl, hS0⟩
  case round =>
    clear hS hS0
    obtain ⟨k, b, hk, rfl, hb, hS⟩ := hrel
    by_cases hlt : k < v.frames.length
    · obtain ⟨x, hx⟩ := get_exU v.frames k hlt
      have hMx := hM.1.2 x (List.mem_of_getElem? hx)
      obtain ⟨ad, A2, A4, c2, c4, rfl, q0, q1, q2, q3, hl2, hr2, hl4, hr4⟩ := kFrame_at (r0.below hS.bel) k x hx
      obtain ⟨g8, hg8⟩ : ∃ g8, wr.heap.size = g8 := ⟨_, rfl⟩
      have hT := (hS.madeAt (.cells #[.int .i64 x.fn, .int .i64 x.pc, .slice A2 x.locals.length c2, .slice A4 x.stack.length c4] 145 (0, 0)) g8 hg8).madeAt (.cells #[.slice A2 x.locals.length c2, .slice A4 x.stack.length c4] 143 (0, 0)) (g8 + 1) (by simp [hg8])
      have CC := concat2 (g8 + 1) 2 A2 A4 c2 c4 x.locals x.stack _ (hT.cell 0 rfl 0) (hT.cell 0 rfl 1) (hr2.below (bl_alloc (bl_alloc (Below.refl _ _) _) _)) (hr4.below (bl_alloc (bl_alloc (Below.refl _ _) _) _)) hMx.1.1 hMx.2.1
      obtain ⟨ys, hys⟩ : ∃ ys, x.locals ++ x.stack = ys := ⟨_, rfl⟩
      have HN := Lib.hid (frv_snoc (nf := l.length) (nr := v.heap.length) hx hys)
      have hyv : ∀ z ∈ ys, z.s.size ≤ maxLen := fun z hz => by
        rw [← hys] at hz
        rcases List.mem_append.1 hz with hz | hz
        · exact hmx z (hMx.1.2 z hz)
        · exact hmx z (hMx.2.2 z hz)
      have hyl : ys.length ≤ 2097152 := by rw [← hys, List.length_append]; have := hMx.1.1; have := hMx.2.1; omega
      rw [hys] at CC
      have HC := Lib.hid CC
      clear hx hys CC
      go_wp2_with fail
      refine HC.out.mono ?_
      intro e w2 hn
      obtain ⟨v2, F2, rfl, hS2⟩ := hT.newRow hn
      obtain ⟨A5, c5, rfl, hc5, _⟩ := hS2.row 0 rfl
      clear hn hT HC hS q0 q1 q2 q3 hr2 hr4 hg8
      go_wp2
      go_loopw [26] (fun i wr => ∃ (j : Nat) (b2 : Bool), j ≤ ys.length ∧ i = .int .i64 j ∧ Hid (b2 = (b && (ys.take j).all (valB l.length v.heap.length))) ∧ St w0 [Res.own kValue 65 (.slice A5 ys.length c5) ys F2, Res.box (g8 + 1) (.cells #[.slice A2 x.locals.length c2, .slice A4 x.stack.length c4] 143 (0, 0)), Res.box g8 (.cells #[.int .i64 x.fn, .int .i64 x.pc, .slice A2 x.locals.length c2, .slice A4 x.stack.length c4] 145 (0, 0)), Res.box W.heap.size (.cells #[.slice (some ad) v.frames.length c0, .slice A1 v.heap.length c1, .int .i64 v.made, .slice A3 v.out.length c3, .int .i64 v.status, .int .i64 v.trap, .int .i64 v.value.k, .int .i64 v.value.n, .string v.value.s, .int .i64 v.steps] 67 (0, 0)), Res.box g1 (.cells #[.bool b2] 4 (0, 0)), Res.box g3 (.cells #[.slice (some ad) v.frames.length c0, .slice A1 v.heap.length c1, .int .i64 v.made, .slice A3 v.out.length c3, .int .i64 v.status, .int .i64 v.trap, .int .i64 v.value.k, .int .i64 v.value.n, .string v.value.s, .int .i64 v.steps] 67 (0, 0)), Res.box g2 (.cells #[.slice A nt c, .slice B l.length d] 36 (0, 0))] wr) (fun i _ => ys.length - (intOf i).toNat)
      case atStart => exact ⟨0, b, by omega, rfl, Lib.hid (by simp), hS2⟩
      case round =>
        clear hS2
        obtain ⟨j, b2, hj, rfl, hb2, hS⟩ := hrel
        by_cases hlt2 : j < ys.length
        · obtain ⟨z, hz⟩ := get_exU ys j hlt2
          have hzs := hyv z (List.mem_of_getElem? hz)
          have HZ := Lib.hid (all_snoc (valB l.length v.heap.length) ys j z hz)
          obtain ⟨adz, rfl, p0, p1, p2⟩ := kValue_at (St.rowA hS 0 rfl) j z hz
          have hTz := hS.made (.cells #[.int .i64 z.k, .int .i64 z.n, .string z.s] 65 (0, 0))
          have CO := Lib.hid (okCl hTz 5 rfl g2 g3 B A1 d c1 l.length v.heap.length (hTz.cell 7 rfl 1) (hTz.cell 6 rfl 1) z hzs hl hnh)
          clear hz
          go_wp2_with fail
          refine CO.out.mono ?_
          rintro e w3 ⟨rfl, hS3⟩
          clear hTz CO
          go_wp2
          go_roundw
          case rel => exact ⟨j + 1, _, by omega, by go_num, Lib.hid (and_hid hb2.out HZ.out), hS3.drop⟩
          case measure => simp [intOf]; omega
        · obtain rfl : j = ys.length := by omega
          have HB := Lib.hid (show b2 = frvB l.length v.heap.length (v.frames.take (k + 1)) by rw [HN.out, hb2.out, List.take_length, hb.out])
          go_wp2
          go_roundw
          case rel => exact ⟨k + 1, b2, by omega, by go_num, HB, hS.drop.drop.drop⟩
          case measure => simp [intOf]; omega
    obtain rfl : k = v.frames.length := by omega
    have HF := Lib.hid (show b = frvB l.length v.heap.length v.frames by rw [hb.out, List.take_length])
    clear hb
    have x1 := hS.cell 0 rfl
    go_wp2
    go_loopw [38] (fun i wr => ∃ (k : Nat) (b2 : Bool), k ≤ v.heap.length ∧ i = .int .i64 k ∧ Hid (b2 = (b && hpvB l.length v.heap.length (v.heap.take k))) ∧ St w0 [Res.box W.heap.size (.cells #[.slice A0 v.frames.length c0, .slice A1 v.heap.length c1, .int .i64 v.made, .slice A3 v.out.length c3, .int .i64 v.status, .int .i64 v.trap, .int .i64 v.value.k, .int .i64 v.value.n, .string v.value.s, .int .i64 v.steps] 67 (0, 0)), Res.box g1 (.cells #[.bool b2] 4 (0, 0)), Res.box g3 (.cells #[.slice A0 v.frames.length c0, .slice A1 v.heap.length c1, .int .i64 v.made, .slice A3 v.out.length c3, .int .i64 v.status, .int .i64 v.trap, .int .i64 v.value.k, .int .i64 v.value.n, .string v.value.s, .int .i64 v.steps] 67 (0, 0)), Res.box g2 (.cells #[.slice A nt c, .slice B l.length d] 36 (0, 0))] wr) (fun i _ => v.heap.length - (intOf i).toNat)
    case atStart => exact ⟨0, b, by omega, rfl, Lib.hid (by simp [hpvB]), hS⟩
    case round =>
      clear hS x1
      obtain ⟨k, b2, hk, rfl, hb2, hS⟩ := hrel
      by_cases hlt : k < v.heap.length
      · obtain ⟨x, hx⟩ := get_exU v.heap k hlt
        have hMx := hM.2.1.2 x (List.mem_of_getElem? hx)
        obtain ⟨ad, A2, c2, rfl, q0', hl2, hr2⟩ := kRec_at r1 k x hx
        rw [Nat.mul_one] at q0'
        have q0 := kept hS.bel q0'
        have HN := Lib.hid (hpv_snoc (nf := l.length) (nr := v.heap.length) hx)
        have hyv : ∀ z ∈ x.fields, z.s.size ≤ maxLen := fun z hz => hmx z (hMx.2 z hz)
        have hyl := hMx.1
        obtain ⟨g8, hg8⟩ : ∃ g8, wr.heap.size = g8 := ⟨_, rfl⟩
        have hT := hS.madeAt (.cells #[.slice A2 x.fields.length c2] 148 (0, 0)) g8 hg8
        clear hx hS q0'
        go_wp2
        clear q0 hg8
        go_loopw [45] (fun i wr => ∃ (j : Nat) (b3 : Bool), j ≤ x.fields.length ∧ i = .int .i64 j ∧ Hid (b3 = (b2 && (x.fields.take j).all (valB l.length v.heap.length))) ∧ St w0 [Res.box g8 (.cells #[.slice A2 x.fields.length c2] 148 (0, 0)), Res.box W.heap.size (.cells #[.slice A0 v.frames.length c0, .slice (some ad) v.heap.length c1, .int .i64 v.made, .slice A3 v.out.length c3, .int .i64 v.status, .int .i64 v.trap, .int .i64 v.value.k, .int .i64 v.value.n, .string v.value.s, .int .i64 v.steps] 67 (0, 0)), Res.box g1 (.cells #[.bool b3] 4 (0, 0)), Res.box g3 (.cells #[.slice A0 v.frames.length c0, .slice (some ad) v.heap.length c1, .int .i64 v.made, .slice A3 v.out.length c3, .int .i64 v.status, .int .i64 v.trap, .int .i64 v.value.k, .int .i64 v.value.n, .string v.value.s, .int .i64 v.steps] 67 (0, 0)), Res.box g2 (.cells #[.slice A nt c, .slice B l.length d] 36 (0, 0))] wr) (fun i _ => x.fields.length - (intOf i).toNat)
        case atStart => exact ⟨0, b2, by omega, rfl, Lib.hid (by simp), hT⟩
        case round =>
          clear hT
          obtain ⟨j, b3, hj, rfl, hb3, hS⟩ := hrel
          by_cases hlt2 : j < x.fields.length
          · obtain ⟨z, hz⟩ := get_exU x.fields j hlt2
            have hzs := hyv z (List.mem_of_getElem? hz)
            have HZ := Lib.hid (all_snoc (valB l.length v.heap.length) x.fields j z hz)
            obtain ⟨adz, e9, p0, p1, p2⟩ := kValue_at (hr2.below hS.bel) j z hz
            subst e9
            have hTz := hS.made (.cells #[.int .i64 z.k, .int .i64 z.n, .string z.s] 65 (0, 0))
            have CO := Lib.hid (okCl hTz 3 rfl g2 g3 B (some ad) d c1 l.length v.heap.length (hTz.cell 5 rfl 1) (hTz.cell 4 rfl 1) z hzs hl hnh)
            clear hz
            go_wp2_with fail
            refine CO.out.mono ?_
            rintro e w3 ⟨rfl, hS3⟩
            clear hTz CO
            go_wp2
            go_roundw
            case rel => exact ⟨j + 1, _, by omega, by go_num, Lib.hid (and_hid hb3.out HZ.out), hS3.drop⟩
            case measure => simp [intOf]; omega
          · obtain rfl : j = x.fields.length := by omega
            have HB := Lib.hid (show b3 = (b && hpvB l.length v.heap.length (v.heap.take (k + 1))) by rw [HN.out, hb3.out, List.take_length, hb2.out, Bool.and_assoc])
            go_wp2
            go_roundw
            case rel => exact ⟨k + 1, b3, by omega, by go_num, HB, hS.drop⟩
            case measure => simp [intOf]; omega
      obtain rfl : k = v.heap.length := by omega
      have HH := Lib.hid (show b2 = (b && hpvB l.length v.heap.length v.heap) by rw [hb2.out, List.take_length])
      clear hb2
      have x1 := hS.cell 0 rfl
      have CO := Lib.hid (okCl hS 1 rfl g2 g3 B A1 d c1 l.length v.heap.length (hS.cell 3 rfl 1) (hS.cell 2 rfl 1) v.value (hmx _ hM.2.2.2) hl hnh)
      go_wp2_with fail
      refine CO.out.mono ?_
      rintro e w3 ⟨rfl, hS3⟩
      clear hS CO x1
      go_wp2
      go_end0
      refine ⟨rfl, ?_⟩
      have h9 := hS3.drop
      rw [HH.out, HF.out, Bool.and_assoc] at h9
      exact h9
end Go.Proofs.YthinhlcfpaaldaaGreat.Dat
