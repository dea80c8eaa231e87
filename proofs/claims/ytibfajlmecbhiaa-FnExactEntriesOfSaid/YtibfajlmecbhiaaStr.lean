/- Leaders, heads and straight functions, in the program and in the reference. -/
import Derived.Test.YtibfajlmecbhiaaStrP
namespace Go.Proofs.Ytibfajlmecbhiaa.Dat
open Go Go.RowKit Go.Proofs.Ytibfajlmecbhiaa.Mem
set_option linter.unusedVariables false
set_option linter.unusedSimpArgs false
theorem infoBool : (Try.prog.info? 4).map (fun i => (i.zero, i.size, i.bytes)) = some (some (.bool false), 1, 1) := by kernel_rfl
theorem markF_at {m : List Bool} {k : Nat} {b : Bool} (hk : m[k]? = some b) : markF (m.take (k + 1)) 0 = markF (m.take k) 0 ++ (if b then [(k : Int)] else []) := by
  have gen : ∀ (m : List Bool) (k i : Nat) (b : Bool), m[k]? = some b → markF (m.take (k + 1)) i = markF (m.take k) i ++ (if b then [((i + k : Nat) : Int)] else []) := by
    intro m
    induction m with
    | nil => intro k i b h; simp at h
    | cons c m ih =>
      intro k i b h
      cases k with
      | zero =>
        have e : c = b := by simpa using h
        subst e
        cases c <;> simp [markF]
      | succ k =>
        have := ih k (i + 1) b (by simpa using h)
        rw [show i + 1 + k = i + (k + 1) by omega] at this
        cases c <;> simp [markF, this]
  simpa using gen m k 0 b hk
set_option maxHeartbeats 1000000 in
set_option maxRecDepth 100000 in
theorem mark03 (A : Option Addr) (c : Nat) (m : List Bool) (w : World) (hr : Knd.bool.Row w A m.length m) (hm : m.length ≤ 1048576) :
    Calls Try.prog 39 #[.slice A m.length c] w (NewRow (Knd.int .i64) 3 (markF m 0) w) := by
  have hS0 := (St.start w).litAt (enc := Value.int .i64) (h1 := fun _ => rfl) (e := 3) [] #[] rfl w.heap.size rfl 0 rfl (by simp)
  go_enter Try.func39, Try.ntmps39
  go_wp2
  go_loopw [3, 4] (fun v i wr => ∃ (k : Nat) (F : List Nat), k ≤ m.length ∧ i = .int .i64 k ∧ St w [Res.own (Knd.int .i64) 3 v (markF (m.take k) 0) F] wr ∧ (markF (m.take k) 0).length ≤ k) (fun _ i _ => m.length - (intOf i).toNat)
  case atStart => exact ⟨0, _, by omega, rfl, hS0, by simp [markF]⟩
  case round =>
    clear hS0
    obtain ⟨k, F, hk, rfl, hS, hl⟩ := hrel
    by_cases hlt : k < m.length
    · obtain ⟨b, hb⟩ := get_exU m k hlt
      obtain ⟨ad, rfl, q0⟩ := (hr.below hS.bel).one k b hb
      have HM := Lib.hid (markF_at hb)
      clear hb
      cases b
      · go_wp2
        go_roundw
        case rel => exact ⟨k + 1, F, by omega, by go_num, by rw [HM.out]; simpa using hS, by rw [HM.out]; simp; omega⟩
        case measure => simp [intOf]; omega
      · have hl2 : (markF (m.take k) 0).length ≤ 1048576 := by omega
        generalize hP : markF (m.take k) 0 = P at hS hl hl2 HM
        have HP := Lib.hid hP
        clear hP
        go_wp2_with (at_builtin; refine Knd.wp_app1 rfl _ _ _ rfl 3 Try.underlying27 (.int .i64 0) 8 infoInt rfl rfl ((hS.al _).own_ 0 rfl) _ _ _ _ _ (blkAt _ _ (by simp)) rfl (by (try simp [maxLen]); (try omega)) (by (try simp); (try omega)) ?_; rintro gq cq wq hO hB hg; have hSq := (hS.al _).app1 0 rfl hO hB hg; clear hO hB hg hS; have hS := hSq; clear hSq)
        go_roundw
        case rel => exact ⟨k + 1, _, by omega, by go_num, by rw [HM.out]; exact hS, by rw [HM.out]; simp; omega⟩
        case measure => simp [intOf]; omega
    · obtain rfl : k = m.length := by omega
      rw [List.take_length] at hS
      go_wp2
      go_ret
      exact hS.outRow 0 rfl
set_option maxHeartbeats 4000000 in
set_option maxRecDepth 100000 in
theorem leaders03 (A B : Option Addr) (c d : Nat) (t : List ByteArray) (l : List DFunc) (f : Nat) (y : DFunc) (w : World) (hr : kFunc.Row w B l.length l) (hgd : isGoodB t l = true) (hy : l[f]? = some y) :
    Calls Try.prog 22 #[.agg #[.slice A t.length c, .slice B l.length d], .int .i64 f] w (NewRow (Knd.int .i64) 3 (leadersL l y.code) w) := by
  have hfit := modFit (isGood_mod hgd)
  have hm := hfit.n12
  have hym := List.mem_of_getElem? hy
  have n1 := hfit.c1 y hym
  have n120 := hfit.c120 y hym
  have hH := hfit.hgt hym
  obtain ⟨ad, A2, c2, rfl, _, _, q2', hq, hr2⟩ := kFunc_at hr f y hy
  have q2 := kept (bl_alloc (Below.refl _ _) (.cells #[.slice A t.length c, .slice (some ad) l.length d] 31 (0, 0))) q2'
  have hfl : f < l.length := (List.getElem?_eq_some_iff.1 hy).1
  have HY := Lib.hid hy
  clear hy q2'
  have hS0 := (St.start w).made (.cells #[.slice A t.length c, .slice (some ad) l.length d] 31 (0, 0))
  go_enter Try.func22, Try.ntmps22
  go_wp2_with fail
  refine (depths03 A (some ad) c d t l f y _ (hr.below hS0.bel) hfit HY.out).mono ?_
  intro e w2 hn
  obtain ⟨v, F, rfl, hS1⟩ := hS0.newRow hn
  obtain ⟨g, cg, hv', hgF⟩ := own_form (hS1.get 0 rfl) (by rw [hH.1]; omega)
  rw [hH.1] at hv'
  subst hv'
  clear hn hS0 q2
  go_wp2_with (refine Knd.wp_made Knd.bool rfl _ _ _ rfl y.code.length rfl rfl 4 Try.underlying55 (.bool false) 1 infoBool rfl (by decide) (by omega) false (fun _ => ⟨rfl, rfl⟩) (by omega) ?_; rintro gm w3 hg ho hb hz; have hSm := hS1.madeRow ho hg hb; clear hg ho hb hz hS1; have v0 := hSm.free1 0 rfl 0; have v1 := hSm.cell1 0 rfl 0 false (by rw [List.getElem?_replicate, if_pos (by omega)]))
  have hSk := Lib.hid (hSm.put1 0 rfl 0 (by simp; omega) true)
  clear hSm
  clear v0 v1
  obtain ⟨Q, hQ⟩ : ∃ Q, leadM (depthsL l y.code) y.code 0 ((List.replicate y.code.length false).set 0 true) = Q := ⟨_, rfl⟩
  have HQ0 := Lib.hid hQ
  have eQ : leadersL l y.code = markF Q 0 := by rw [← hQ]; rfl
  have HEQ := Lib.hid eQ
  clear hQ eQ
  go_loopw [8] (fun i wr => ∃ (pc : Nat) (m : List Bool), pc ≤ y.code.length ∧ i = .int .i64 pc ∧ Hid (leadM (depthsL l y.code) (y.code.drop pc) pc m = Q) ∧ m.length = y.code.length ∧ St w [Res.own Knd.bool 4 (.slice (some ⟨gm, 0, none⟩) y.code.length y.code.length) m [gm], Res.own (Knd.int .i64) 3 (.slice (some ⟨g, 0, none⟩) y.code.length cg) (depthsL l y.code) F, Res.box w.heap.size (.cells #[.slice A t.length c, .slice (some ad) l.length d] 31 (0, 0))] wr) (fun i _ => y.code.length - (intOf i).toNat)
  case atStart => exact ⟨0, _, by omega, rfl, HQ0, by simp, hSk.out⟩
  case round =>
    clear hSk
    obtain ⟨pc, m, hpc, rfl, hQ, hml, hS⟩ := hrel
    by_cases hlt : pc < y.code.length
    · obtain ⟨x, hx⟩ := get_exU y.code pc hlt
      have HQ : Hid (leadM (depthsL l y.code) (y.code.drop (pc + 1)) (pc + 1) (leadS m x pc (at0 (depthsL l y.code) pc)) = Q) := Lib.hid (by
        obtain ⟨hk, e⟩ := List.getElem?_eq_some_iff.1 hx
        have := hQ.out
        rw [List.drop_eq_getElem_cons hk, e] at this
        exact this)
      have hxf := hfit.fit hym (List.mem_of_getElem? hx)
      obtain ⟨ad2, rfl, r0, r1⟩ := kIns_at (hr2.below hS.bel) pc x hx
      have hlen : pc < (depthsL l y.code).length := by rw [hH.1]; exact hlt
      have u0 := hS.cell1 1 rfl pc _ (at0_get hlen)
      have HX := Lib.hid hx
      obtain ⟨h, hh⟩ : ∃ h, at0 (depthsL l y.code) pc = h := ⟨_, rfl⟩
      rw [hh] at u0 HQ
      have Hh := Lib.hid hh
      clear hx hQ hlen hh
      have HML := Lib.hid hml
      all_goals skip
      by_cases hsk : h < 0 ∨ isJmp x.op = false
      · have e1 : leadS m x pc h = m := by unfold leadS; rw [if_pos hsk]
        have E1 := Lib.hid e1
        have HQ2 := HQ
        by_cases h0 : h < 0
        · clear hsk e1
          go_wp2
          go_roundw
          case rel => exact ⟨pc + 1, m, by omega, by go_num, Lib.hid (by have := HQ2.out; rwa [E1.out] at this), hml, hS⟩
          case measure => simp [intOf]; omega
        · have hj : isJmp x.op = false := by rcases hsk with h1 | h1; exact absurd h1 h0; exact h1
          rw [isJmp, btw_false] at hj
          have h0' : 0 ≤ h := by omega
          have e17 : (x.op != 17) = true := by simp; omega
          have e18 : (x.op != 18) = true := by simp; omega
          have e19 : (x.op != 19) = true := by simp; omega
          clear hsk e1 hj
          go_wp2
          go_roundw
          case rel => exact ⟨pc + 1, m, by omega, by go_num, Lib.hid (by have := HQ2.out; rwa [E1.out] at this), hml, hS⟩
          case measure => simp [intOf]; omega
      have h0' : 0 ≤ h := by omega
      have hj : isJmp x.op = true := by cases h3 : isJmp x.op; exact absurd (.inr h3) hsk; rfl
      obtain ⟨ha0, ha1⟩ := hxf.jmp hj
      have hgo := good_ins hgd hym HX.out (by rw [Hh.out]; exact h0')
      obtain ⟨a, ha⟩ : ∃ a : Nat, x.a = a := ⟨x.a.toNat, by omega⟩
      rw [ha] at r1
      have ham : a < m.length := by rw [hml]; omega
      obtain ⟨b1, k1⟩ : ∃ b1, m[a]? = some b1 := ⟨m[a], List.getElem?_eq_getElem ham⟩
      have v1 := hS.cell1 0 rfl a b1 k1
      have v0 := hS.free1 0 rfl a
      have han : a < y.code.length := by omega
      have hS2 := hS.put1 0 rfl a ham true
      have hn2 : (nexts x pc).any (fun q => decide (q = (pc : Int) + 1)) = true → pc + 1 < y.code.length := fun e => by
        obtain ⟨q, hq, he⟩ := List.any_eq_true.1 e
        have h4 := hgo.2 q hq
        have h5 : q = (pc : Int) + 1 := by simpa using he
        have := h4.1
        omega
      by_cases h17 : x.op = 17
      · have e1 : leadS m x pc h = m.set a true := by unfold leadS; rw [if_neg hsk, if_pos h17, ha]; rfl
        have E1 := Lib.hid e1
        rw [h17] at r0
        have HS2 := Lib.hid hS2
        clear e1 hgo hn2 hj hsk ha k1 ham hS2
        go_wp2
        go_roundw
        case rel => exact ⟨pc + 1, m.set a true, by omega, by go_num, Lib.hid (by have := HQ.out; rwa [E1.out] at this), by rw [List.length_set]; exact hml, HS2.out⟩
        case measure => simp [intOf]; omega
      · have e1 : leadS m x pc h = (m.set a true).set (pc + 1) true := by unfold leadS; rw [if_neg hsk, if_neg h17, ha]; rfl
        have E1 := Lib.hid e1
        have hj2 := hj
        rw [isJmp, btw_true] at hj2
        have hn3 := hn2 (by unfold nexts; rw [if_neg (by omega), if_neg h17, if_pos (by omega)]; simp)
        have hpm : pc + 1 < (m.set a true).length := by rw [List.length_set, hml]; exact hn3
        obtain ⟨b2, k2⟩ : ∃ b2, (m.set a true)[pc + 1]? = some b2 := ⟨(m.set a true)[pc + 1], List.getElem?_eq_getElem hpm⟩
        have v2 := hS2.cell1 0 rfl (pc + 1) b2 k2
        have v3 := hS2.free1 0 rfl (pc + 1)
        have HS3 := Lib.hid (hS2.put1 0 rfl (pc + 1) hpm true)
        have e17 : (x.op != 17) = true := by simp; exact h17
        have hpp : (pc : Int) + 1 < y.code.length := by omega
        have hcase : x.op = 18 ∨ x.op = 19 := by omega
        clear e1 hgo hn2 hj hj2 hsk ha k1 k2 ham hpm hS2
        have e1819 : (x.op != 18 && x.op != 19) = false := by rcases hcase with e | e <;> simp [e]
        rcases hcase with e | e
        all_goals
          rw [e] at r0
          clear e e17 e1819 h17
          go_wp2
          go_roundw
          case rel => exact ⟨pc + 1, (m.set a true).set (pc + 1) true, by omega, by go_num, Lib.hid (by have := HQ.out; rwa [E1.out] at this), by rw [List.length_set, List.length_set]; exact hml, HS3.out⟩
          case measure => simp [intOf]; omega
    · obtain rfl : pc = y.code.length := by omega
      have hQ2 : Hid (m = Q) := Lib.hid (by have := hQ.out; rwa [List.drop_length] at this)
      obtain ⟨A5, c5, hv5, _, hrow⟩ := hS.row 0 rfl
      have C := mark03 A5 c5 m wr hrow (by omega)
      rw [← hv5, hQ2.out] at C
      clear hQ hv5 hrow
      go_wp2_with fail
      refine C.mono ?_
      intro e w5 hn
      obtain ⟨v, F5, rfl, hS5⟩ := hS.newRow hn
      go_wp2
      go_ret
      rw [HEQ.out]
      exact hS5.outRow 0 rfl
set_option maxHeartbeats 4000000 in
set_option maxRecDepth 100000 in
theorem heads03 (A B : Option Addr) (c d : Nat) (t : List ByteArray) (l : List DFunc) (f : Nat) (y : DFunc) (w : World) (hr : kFunc.Row w B l.length l) (hgd : isGoodB t l = true) (hy : l[f]? = some y) :
    Calls Try.prog 31 #[.agg #[.slice A t.length c, .slice B l.length d], .int .i64 f] w (NewRow (Knd.int .i64) 3 (headsL l y.code) w) := by
  have hfit := modFit (isGood_mod hgd)
  have hm := hfit.n12
  have hym := List.mem_of_getElem? hy
  have n1 := hfit.c1 y hym
  have n120 := hfit.c120 y hym
  have hH := hfit.hgt hym
  obtain ⟨ad, A2, c2, rfl, _, _, q2', hq, hr2⟩ := kFunc_at hr f y hy
  have q2 := kept (bl_alloc (Below.refl _ _) (.cells #[.slice A t.length c, .slice (some ad) l.length d] 31 (0, 0))) q2'
  have hfl : f < l.length := (List.getElem?_eq_some_iff.1 hy).1
  have HY := Lib.hid hy
  clear hy q2'
  have hS0 := (St.start w).made (.cells #[.slice A t.length c, .slice (some ad) l.length d] 31 (0, 0))
  go_enter Try.func31, Try.ntmps31
  go_wp2_with fail
  refine (depths03 A (some ad) c d t l f y _ (hr.below hS0.bel) hfit HY.out).mono ?_
  intro e w2 hn
  obtain ⟨v, F, rfl, hS1⟩ := hS0.newRow hn
  obtain ⟨g, cg, hv', hgF⟩ := own_form (hS1.get 0 rfl) (by rw [hH.1]; omega)
  rw [hH.1] at hv'
  subst hv'
  clear hn hS0 q2
  go_wp2_with (refine Knd.wp_made Knd.bool rfl _ _ _ rfl y.code.length rfl rfl 4 Try.underlying55 (.bool false) 1 infoBool rfl (by decide) (by omega) false (fun _ => ⟨rfl, rfl⟩) (by omega) ?_; rintro gm w3 hg ho hb hz; have hSm := hS1.madeRow ho hg hb; clear hg ho hb hz hS1)
  have hSk := Lib.hid hSm
  clear hSm
  go_wp2
  obtain ⟨Q, hQ⟩ : ∃ Q, headM (depthsL l y.code) y.code 0 ((List.replicate y.code.length false)) = Q := ⟨_, rfl⟩
  have HQ0 := Lib.hid hQ
  have eQ : headsL l y.code = markF Q 0 := by rw [← hQ]; rfl
  have HEQ := Lib.hid eQ
  clear hQ eQ
  go_loopw [8] (fun i wr => ∃ (pc : Nat) (m : List Bool), pc ≤ y.code.length ∧ i = .int .i64 pc ∧ Hid (headM (depthsL l y.code) (y.code.drop pc) pc m = Q) ∧ m.length = y.code.length ∧ St w [Res.own Knd.bool 4 (.slice (some ⟨gm, 0, none⟩) y.code.length y.code.length) m [gm], Res.own (Knd.int .i64) 3 (.slice (some ⟨g, 0, none⟩) y.code.length cg) (depthsL l y.code) F, Res.box w.heap.size (.cells #[.slice A t.length c, .slice (some ad) l.length d] 31 (0, 0))] wr) (fun i _ => y.code.length - (intOf i).toNat)
  case atStart => exact ⟨0, _, by omega, rfl, HQ0, by simp, hSk.out⟩
  case round =>
    clear hSk
    obtain ⟨pc, m, hpc, rfl, hQ, hml, hS⟩ := hrel
    by_cases hlt : pc < y.code.length
    · obtain ⟨x, hx⟩ := get_exU y.code pc hlt
      have HQ : Hid (headM (depthsL l y.code) (y.code.drop (pc + 1)) (pc + 1) (headS m x pc (at0 (depthsL l y.code) pc)) = Q) := Lib.hid (by
        obtain ⟨hk, e⟩ := List.getElem?_eq_some_iff.1 hx
        have := hQ.out
        rw [List.drop_eq_getElem_cons hk, e] at this
        exact this)
      have hxf := hfit.fit hym (List.mem_of_getElem? hx)
      obtain ⟨ad2, rfl, r0, r1⟩ := kIns_at (hr2.below hS.bel) pc x hx
      have hlen : pc < (depthsL l y.code).length := by rw [hH.1]; exact hlt
      have u0 := hS.cell1 1 rfl pc _ (at0_get hlen)
      have HX := Lib.hid hx
      obtain ⟨h, hh⟩ : ∃ h, at0 (depthsL l y.code) pc = h := ⟨_, rfl⟩
      rw [hh] at u0 HQ
      have Hh := Lib.hid hh
      clear hx hQ hlen hh
      have HML := Lib.hid hml
      all_goals skip
      by_cases hsk : 0 ≤ h ∧ isJmp x.op = true ∧ x.a ≤ pc
      · obtain ⟨h0, hj, hle⟩ := hsk
        have e1 : headS m x pc h = m.set x.a.toNat true := by unfold headS; rw [if_pos ⟨h0, hj, hle⟩]
        obtain ⟨ha0, ha1⟩ := hxf.jmp hj
        obtain ⟨a, ha⟩ : ∃ a : Nat, x.a = a := ⟨x.a.toNat, by omega⟩
        rw [ha] at r1 hle
        rw [ha, Int.toNat_natCast] at e1
        have E1 := Lib.hid e1
        have ham : a < m.length := by rw [hml]; omega
        obtain ⟨b1, k1⟩ : ∃ b1, m[a]? = some b1 := ⟨m[a], List.getElem?_eq_getElem ham⟩
        have v1 := hS.cell1 0 rfl a b1 k1
        have v0 := hS.free1 0 rfl a
        have han : a < y.code.length := by omega
        have HS2 := Lib.hid (hS.put1 0 rfl a ham true)
        rw [isJmp, btw_true] at hj
        have hcase : x.op = 17 ∨ x.op = 18 ∨ x.op = 19 := by omega
        have hle' : (a : Int) ≤ (pc : Int) := hle
        clear e1 hj ha k1 ham
        rcases hcase with e | e | e
        all_goals
          rw [e] at r0
          clear e
          go_wp2
          go_roundw
          case rel => exact ⟨pc + 1, m.set a true, by omega, by go_num, Lib.hid (by have := HQ.out; rwa [E1.out] at this), by rw [List.length_set]; exact hml, HS2.out⟩
          case measure => simp [intOf]; omega
      have E1 := Lib.hid (show headS m x pc h = m by unfold headS; rw [if_neg hsk])
      by_cases h0 : h < 0
      · clear hsk
        go_wp2
        go_roundw
        case rel => exact ⟨pc + 1, m, by omega, by go_num, Lib.hid (by have := HQ.out; rwa [E1.out] at this), hml, hS⟩
        case measure => simp [intOf]; omega
      have h0' : 0 ≤ h := by omega
      cases hj : isJmp x.op
      · rw [isJmp, btw_false] at hj
        have e17 : (x.op == 17) = false := by simp; omega
        have e18 : (x.op == 18) = false := by simp; omega
        have e19 : (x.op == 19) = false := by simp; omega
        clear hsk hj
        go_wp2
        go_roundw
        case rel => exact ⟨pc + 1, m, by omega, by go_num, Lib.hid (by have := HQ.out; rwa [E1.out] at this), hml, hS⟩
        case measure => simp [intOf]; omega
      · have hgt : (pc : Int) < x.a := by
          refine Classical.byContradiction fun hn => hsk ⟨h0', hj, by omega⟩
        rw [isJmp, btw_true] at hj
        have hcase : x.op = 17 ∨ x.op = 18 ∨ x.op = 19 := by omega
        clear hsk hj
        rcases hcase with e | e | e
        all_goals
          rw [e] at r0
          clear e
          go_wp2
          go_roundw
          case rel => exact ⟨pc + 1, m, by omega, by go_num, Lib.hid (by have := HQ.out; rwa [E1.out] at this), hml, hS⟩
          case measure => simp [intOf]; omega
    · obtain rfl : pc = y.code.length := by omega
      have hQ2 : Hid (m = Q) := Lib.hid (by have := hQ.out; rwa [List.drop_length] at this)
      obtain ⟨A5, c5, hv5, _, hrow⟩ := hS.row 0 rfl
      have C := mark03 A5 c5 m wr hrow (by omega)
      rw [← hv5, hQ2.out] at C
      clear hQ hv5 hrow
      go_wp2_with fail
      refine C.mono ?_
      intro e w5 hn
      obtain ⟨v, F5, rfl, hS5⟩ := hS.newRow hn
      go_wp2
      go_ret
      rw [HEQ.out]
      exact hS5.outRow 0 rfl
end Go.Proofs.Ytibfajlmecbhiaa.Dat
