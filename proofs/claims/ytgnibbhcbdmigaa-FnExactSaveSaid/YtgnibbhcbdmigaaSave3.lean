/- Save, in the program and in the reference. -/
import Derived.Test.YtgnibbhcbdmigaaSaveI
import Derived.Test.YtgnibbhcbdmigaaSt1
import Derived.Test.YtgnibbhcbdmigaaGood
namespace Go.Proofs.Ytgnibbhcbdmigaa.Dat
open Go Go.RowKit Go.Proofs.Ytgnibbhcbdmigaa.Mem
set_option linter.unusedVariables false
set_option linter.unusedSimpArgs false
theorem own_nd {α : Type} {enc : α → Value} {h1 : ∀ x, (enc x).oneCell' = true} {e : Nat} {w : World} {v : Value} {xs : List α} {F : List Nat} (h : Knd.Own (Knd.scalar enc h1) e w v xs F) : F.Nodup := by
  rw [Knd.flat_own h]
  cases v.ownBlock <;> simp
theorem St.grew {w W W' : World} {L : List Res} {v : Value} {xs bs : List Int} {F : List Nat} {en : Ending} (h : St w L W) (i : Nat) (hi : L[i]? = some (Res.own (Knd.int .u8) 5 v xs F)) (hg : Grew W F bs en W') : ∃ v' F', en = .returned v' ∧ St w (L.set i (Res.own (Knd.int .u8) 5 v' bs F')) W' := by
  obtain ⟨v', F', rfl, ho, hB, hF⟩ := hg
  exact ⟨v', F', rfl, h.upd (r' := Res.own (Knd.int .u8) 5 v' bs F') i hi hB ho (own_nd ho) hF⟩
theorem St.text {w W W' : World} {o : Obj} {v v' : Value} {xs bs : List Int} {F F' : List Nat} (h : St w [Res.own (Knd.int .u8) 5 v xs F, Res.box w.heap.size o] W) (ho : (Knd.int .u8).Own 5 W' v' bs F') (hB : But F W W') (hF : ∀ g ∈ F', w.heap.size + 1 ≤ g) : St w [Res.own (Knd.int .u8) 5 v' bs F', Res.box w.heap.size o] W' := by
  have hb : Below w.heap.size w W' := hB.below h.bel (h.olds 0 rfl)
  have hx : W'.heap[w.heap.size]? = some o := by
    have hn : w.heap.size ∉ F := fun hm => h.apart 0 1 (by decide) rfl rfl _ hm (by simp [Res.box])
    exact (hB.block _ (h.blt 1 rfl) hn).trans (h.get 1 rfl)
  refine ⟨hb, ?_, ?_, ?_⟩
  · intro r hr
    simp only [List.mem_cons, List.not_mem_nil, or_false] at hr
    rcases hr with rfl | rfl
    · exact ho
    · exact hx
  · intro r hr g hg
    simp only [List.mem_cons, List.not_mem_nil, or_false] at hr
    rcases hr with rfl | rfl
    · have := hF g hg
      omega
    · have : g = w.heap.size := by simpa [Res.box] using hg
      omega
  · show (F' ++ ([w.heap.size] ++ [])).Nodup
    rw [List.append_nil, List.nodup_append]
    refine ⟨own_nd ho, by simp, fun a ha b hb e => ?_⟩
    subst e
    have := hF a ha
    have : a = w.heap.size := by simpa using hb
    omega
theorem St.farM {w W : World} {o : Obj} {v : Value} {xs : List Int} {F : List Nat} (h : St w [Res.own (Knd.int .u8) 5 v xs F, Res.box w.heap.size o] W) : ∀ g ∈ F, w.heap.size + 1 ≤ g := fun g hg => by
  have h1 : w.heap.size ≤ g := h.olds 0 rfl g hg
  have h2 := h.apart 0 1 (by decide) rfl rfl g hg
  have h3 : g ≠ w.heap.size := fun e => h2 (by simp [Res.box, e])
  omega
theorem modSmall {t : List ByteArray} {l : List DFunc} (h : modB t l = true) : Small t l := by
  have hf := modFit h
  have ht : t.all textB = true := by
    simp only [modB, Bool.and_eq_true] at h
    exact h.1.2
  refine ⟨by have := hf.t20; omega, fun x hx => ?_, by have := hf.n12; omega, fun x hx => ?_, fun x hx y hy => ?_⟩
  · have := List.all_eq_true.1 ht x hx
    simp only [textB, Bool.and_eq_true, decide_eq_true_eq] at this
    omega
  · have h1 := hf.par x hx
    have h2 := hf.loc x hx
    have h3 := hf.c120 x hx
    omega
  · have h1 := hf.ins x hx y hy
    have h0 := hf.par x hx
    have h2 := hf.loc x hx
    have h3 := hf.c120 x hx
    have h4 := hf.n12
    have h5 := hf.t20
    unfold insB at h1
    by_cases e1 : y.op = 1
    · rw [if_pos e1, btw_true] at h1; omega
    rw [if_neg e1] at h1
    by_cases e2 : y.op = 2
    · rw [if_pos e2, btw_true] at h1; omega
    rw [if_neg e2] at h1
    by_cases e3 : y.op = 3
    · rw [if_pos e3, btw_true] at h1; omega
    rw [if_neg e3] at h1
    by_cases e4 : y.op = 5 ∨ y.op = 24
    · rw [if_pos e4, btw_true] at h1; omega
    rw [if_neg e4] at h1
    by_cases e5 : y.op = 6 ∨ y.op = 7
    · rw [if_pos e5, btw_true, prev_of (m := x.locals) (by omega)] at h1; omega
    rw [if_neg e5] at h1
    by_cases e6 : y.op = 17 ∨ y.op = 18 ∨ y.op = 19
    · rw [if_pos e6, btw_true] at h1; omega
    rw [if_neg e6] at h1
    by_cases e7 : y.op = 20
    · rw [if_pos e7, btw_true] at h1; omega
    rw [if_neg e7] at h1
    by_cases e8 : y.op = 21 ∨ y.op = 22
    · rw [if_pos e8, btw_true] at h1; omega
    rw [if_neg e8] at h1
    by_cases e9 : y.op = 23
    · rw [if_pos e9, btw_true] at h1; omega
    rw [if_neg e9, Bool.and_eq_true, btw_true, decide_eq_true_eq] at h1
    omega
/-- Save, plainly. -/
def saveL (t : List ByteArray) (l : List DFunc) : List Int := if modB t l = true ∧ ((saveBy t l).length : Int) ≤ 20000 then saveBy t l else []
theorem saveL_len (t : List ByteArray) (l : List DFunc) : (saveL t l).length ≤ 1048576 := by
  unfold saveL
  split
  · rename_i h
    omega
  · simp
set_option maxHeartbeats 4000000 in
set_option maxRecDepth 100000 in
theorem saveImp (A B : Option Addr) (c d : Nat) (t : List ByteArray) (l : List DFunc) (w : World) (h : HasMod A B t l w) : Calls Try.prog 19 #[.agg #[.slice A t.length c, .slice B l.length d]] w (NewRow (Knd.int .u8) 5 (saveL t l) w) := by
  have hS0 := (St.start w).made (.cells #[.slice A t.length c, .slice B l.length d] 32 (0, 0))
  cases hb : modB t l
  · have e : saveL t l = [] := by unfold saveL; rw [hb, if_neg (by simp)]
    rw [e]
    have HB := Lib.hid hb
    clear e hb
    go_enter Try.func19, Try.ntmps19
    go_wp2_with fail
    refine (modOkI' A B c d t l _ (h.ht.below hS0.bel) (h.hr.below hS0.bel) h.htm h.hm h.htv h.hv HB.out).mono ?_
    rintro e w' ⟨rfl, hb2⟩
    go_wp2
    go_ret
    refine newNil _ _ _ _ ?_
    exact (hS0.step hb2).bel
  have HB := Lib.hid hb
  have hsm := modSmall hb
  by_cases hl : ((saveBy t l).length : Int) ≤ 20000
  · have e : saveL t l = saveBy t l := by unfold saveL; rw [if_pos ⟨hb, hl⟩]
    rw [e]
    clear e hb
    go_enter Try.func19, Try.ntmps19
    go_wp2_with fail
    refine (modOkI' A B c d t l _ (h.ht.below hS0.bel) (h.hr.below hS0.bel) h.htm h.hm h.htv h.hv HB.out).mono ?_
    rintro e w' ⟨rfl, hb2⟩
    have hS := hS0.step hb2
    have x0 := hS.cell 0 rfl
    clear hS0 hb2
    go_wp2_with fail
    refine (saveI A B c d t l _ (h.ht.below hS.bel) (h.hr.below hS.bel) hsm).mono ?_
    intro e w3 hn
    obtain ⟨v, F, rfl, hS2⟩ := hS.newRow hn
    obtain ⟨A3, c3, rfl, _, _⟩ := hS2.row 0 rfl
    clear hn hS x0
    go_wp2
    go_ret
    exact hS2.outRow 0 rfl
  · have e : saveL t l = [] := by unfold saveL; rw [if_neg (fun hh => hl hh.2)]
    have hl' : 20000 < ((saveBy t l).length : Int) := by omega
    rw [e]
    clear e hb hl
    generalize hS8 : saveBy t l = X at hl'
    have H8 := Lib.hid hS8
    have C := saveI A B c d t l
    rw [hS8] at C
    clear hS8
    go_enter Try.func19, Try.ntmps19
    go_wp2_with fail
    refine (modOkI' A B c d t l _ (h.ht.below hS0.bel) (h.hr.below hS0.bel) h.htm h.hm h.htv h.hv HB.out).mono ?_
    rintro e w' ⟨rfl, hb2⟩
    have hS := hS0.step hb2
    have x0 := hS.cell 0 rfl
    clear hS0 hb2
    go_wp2_with fail
    refine (C _ (h.ht.below hS.bel) (h.hr.below hS.bel) hsm).mono ?_
    intro e w3 hn
    obtain ⟨v, F, rfl, hS2⟩ := hS.newRow hn
    obtain ⟨A3, c3, rfl, _, _⟩ := hS2.row 0 rfl
    clear hn hS x0
    go_wp2
    go_ret
    refine newNil _ _ _ _ ?_
    exact hS2.bel
set_option maxHeartbeats 4000000 in
set_option maxRecDepth 100000 in
theorem save03 (A B : Option Addr) (c d : Nat) (t : List ByteArray) (l : List DFunc) (w : World) (h : HasMod A B t l w) : Calls Try.prog 18 #[.agg #[.slice A t.length c, .slice B l.length d]] w (NewRow (Knd.int .u8) 5 (saveL t l) w) := by
  have hS0 := ((St.start w).made (.cells #[.slice A t.length c, .slice B l.length d] 32 (0, 0))).litAt (enc := Value.int .u8) (h1 := fun _ => rfl) (e := 5) [] #[] rfl (w.heap.size + 1) (by simp) 0 rfl (by simp)
  cases hb : modB t l
  · have e : saveL t l = [] := by unfold saveL; rw [hb, if_neg (by simp)]
    rw [e]
    have HB := Lib.hid hb
    clear e hb
    go_enter Try.func18, Try.ntmps18
    go_wp2_with fail
    refine (modOk01' A B c d t l _ (h.ht.below hS0.bel) (h.hr.below hS0.bel) h.htm h.hm h.htv h.hv HB.out).mono ?_
    rintro e w' ⟨rfl, hb2⟩
    go_wp2
    go_ret
    exact (hS0.step hb2).outRow 0 rfl
  have HB := Lib.hid hb
  have hs := modSmall hb
  have n1 := hs.nt
  have n2 := hs.nf
  have ht := h.ht
  have hr := h.hr
  obtain ⟨R, hR⟩ : ∃ R, saveL t l = R := ⟨_, rfl⟩
  rw [hR]
  have HR := Lib.hid (show (if ((saveBy t l).length : Int) ≤ 20000 then saveBy t l else []) = R by
    rw [← hR]
    unfold saveL
    by_cases hl : ((saveBy t l).length : Int) ≤ 20000
    · rw [if_pos hl, if_pos ⟨hb, hl⟩]
    · rw [if_neg hl, if_neg (fun hh => hl hh.2)])
  clear hR hb
  go_enter Try.func18, Try.ntmps18
  go_wp2_with fail
  refine (modOk01' A B c d t l _ (ht.below hS0.bel) (hr.below hS0.bel) h.htm h.hm h.htv h.hv HB.out).mono ?_
  rintro e w' ⟨rfl, hb2⟩
  have hS := hS0.step hb2
  have x0 := hS.cell 1 rfl
  clear hS0 hb2
  go_wp2_with fail
  refine (num01 _ [] t.length _ _ (hS.own_ 0 rfl) (by omega) (by omega) (by simp)).mono ?_
  intro e w2 hg
  obtain ⟨v, F, rfl, hS2⟩ := St.grew hS 0 rfl hg
  have x0 := hS2.cell 1 rfl
  clear hS hg
  go_wp2
  go_loopw [3, 4] (fun v' i wr => ∃ (k : Nat) (F' : List Nat), k ≤ t.length ∧ i = .int .i64 k ∧ St w [Res.own (Knd.int .u8) 5 v' (numB t.length ++ ((t.take k).map strBy).flatten) F', Res.box w.heap.size (.cells #[.slice A t.length c, .slice B l.length d] 32 (0, 0))] wr) (fun _ i _ => t.length - (intOf i).toNat)
  case atStart => exact ⟨0, F, by omega, rfl, by simpa [numB] using hS2⟩
  case round =>
    clear hS2 x0
    obtain ⟨k, F', hk, rfl, hS⟩ := hrel
    have x0 := hS.cell 1 rfl
    have hlen := flat_len strBy 66 (t.take k) (fun x hx => strBy_len (hs.st x (List.mem_of_mem_take hx)))
    have hlen2 : (numB t.length ++ ((t.take k).map strBy).flatten).length ≤ 2000 := by
      have h6 := numB_len (n := (t.length : Int)) (by omega) (by omega)
      rw [List.length_take] at hlen
      rw [List.length_append]
      have : min k t.length ≤ 20 := by omega
      have := Nat.mul_le_mul_right 66 this
      omega
    by_cases hlt : k < t.length
    · obtain ⟨x, hx⟩ := get_exU t k hlt
      have hxm := hs.st x (List.mem_of_getElem? hx)
      obtain ⟨ad, rfl, q0w⟩ := ht.one k x hx
      have q0 := kept hS.bel q0w
      have HS := Lib.hid (flat_step strBy t k x hx)
      have HL := Lib.hid hlen2
      clear hx hlen hlen2
      go_wp2_with fail
      refine (num01 _ _ x.size F' _ (hS.own_ 0 rfl) (by omega) (by omega) (by have := HL.out; omega)).mono ?_
      intro e w2 hg
      obtain ⟨v2, F2, rfl, hS2⟩ := St.grew hS 0 rfl hg
      have HL2 := Lib.hid (show (numB t.length ++ ((t.take k).map strBy).flatten ++ varB (zig x.size)).length ≤ 3000 by
        have h6 := numB_len (n := (x.size : Int)) (by omega) (by omega)
        have := HL.out
        unfold numB at h6
        rw [List.length_append]
        omega)
      have x0 := hS2.cell 1 rfl
      have q0 := kept hS2.bel q0w
      have hG2 := St.farM hS2
      clear hS hg
      go_wp2_with (at_builtin; refine Knd.wp_text rfl _ _ _ _ rfl 5 Try.underlying40 Try.underlying9 infoByte rfl (hS2.own_ 0 rfl) (w.heap.size + 1) hG2 (by have := hS2.blt 1 rfl; omega) x rfl (by have := HL2.out; omega) ?_; rintro v3 F3 w3 ho3 hB3 hF3; have hS3 := St.text hS2 ho3 hB3 hF3; clear ho3 hB3 hF3 hS2 hG2)
      go_roundw
      case rel => exact ⟨k + 1, F3, by omega, by go_num, by rw [HS.out]; simpa [strBy, numB, chars] using hS3⟩
      case measure => simp [intOf]; omega
    obtain rfl : k = t.length := by omega
    rw [List.take_length] at hS hlen2
    have HL := Lib.hid hlen2
    clear hlen hlen2
    go_wp2_with fail
    refine (num01 _ _ l.length F' _ (hS.own_ 0 rfl) (by omega) (by omega) (by have := HL.out; omega)).mono ?_
    intro e w2 hg
    obtain ⟨v2, F2, rfl, hS2⟩ := St.grew hS 0 rfl hg
    have x0 := hS2.cell 1 rfl
    have HL2 := Lib.hid (show (numB t.length ++ (t.map strBy).flatten ++ varB (zig l.length)).length ≤ 2006 by
      have h6 := numB_len (n := (l.length : Int)) (by omega) (by omega)
      have := HL.out
      unfold numB at h6
      rw [List.length_append]
      omega)
    clear hS hg
    generalize hP : numB t.length ++ (t.map strBy).flatten ++ varB (zig l.length) = P at hS2 HL2
    have HP := Lib.hid hP
    clear hP
    go_wp2
    go_loopw [3, 5] (fun v' i wr => ∃ (k : Nat) (F' : List Nat), k ≤ l.length ∧ i = .int .i64 k ∧ St w [Res.own (Knd.int .u8) 5 v' (P ++ ((l.take k).map funcBy).flatten) F', Res.box w.heap.size (.cells #[.slice A t.length c, .slice B l.length d] 32 (0, 0))] wr) (fun _ i _ => l.length - (intOf i).toNat)
    case atStart => exact ⟨0, F2, by omega, rfl, by simpa using hS2⟩
    case round =>
      clear hS2 x0
      obtain ⟨k, F', hk, rfl, hS⟩ := hrel
      have x0 := hS.cell 1 rfl
      by_cases hlt : k < l.length
      · obtain ⟨x, hx⟩ := get_exU l k hlt
        obtain ⟨p1, p2, p3, p4, p5⟩ := hs.pa x (List.mem_of_getElem? hx)
        have hco := hs.co x (List.mem_of_getElem? hx)
        obtain ⟨ad, A2, c2, rfl, q0, q1, q2, hq, hr2⟩ := kFunc_at (hr.below hS.bel) k x hx
        have hr2w : kIns.Row w A2 x.code.length x.code := by
          obtain ⟨_, A3, c3, e1, _, _, q2w, _, hw⟩ := kFunc_at hr k x hx
          cases e1
          have := kept hS.bel q2w
          rw [q2] at this
          cases this
          exact hw
        have HL := Lib.hid (show (P ++ ((l.take k).map funcBy).flatten).length ≤ 20000 by
          have h1 := flat_len funcBy 1458 (l.take k) (fun x hx => funcBy_len (hs.pa x (List.mem_of_mem_take hx)) (hs.co x (List.mem_of_mem_take hx)))
          have h2 := HL2.out
          rw [List.length_take] at h1
          have : min k l.length ≤ 12 := by omega
          have := Nat.mul_le_mul_right 1458 this
          rw [List.length_append]
          omega)
        have HX := Lib.hid (flat_step funcBy l k x hx)
        obtain ⟨g7, hg7⟩ : ∃ g7, wr.heap.size = g7 := ⟨_, rfl⟩
        replace hS := hS.madeAt (.cells #[.int .i64 x.params, .int .i64 x.locals, .slice A2 x.code.length c2] 64 (0, 0)) g7 hg7
        have hxl := hx
        clear hx hxl
        go_wp2_with fail
        refine (num01 _ _ x.params F' _ (hS.own_ 1 rfl) (by omega) (by omega) (by have := HL.out; omega)).mono ?_
        intro e w3 hg
        obtain ⟨v3, F3, rfl, hS3⟩ := St.grew hS 1 rfl hg
        have HL := grow_own (hS3.own_ 1 rfl) HL (by omega) (by omega)
        have xf := hS3.cell 0 rfl
        clear hS hg x0 q0 q1 q2 hr2 hg7
        go_wp2_with fail
        refine (num01 _ _ x.locals F3 _ (hS3.own_ 1 rfl) (by omega) (by omega) (by have := HL.out; omega)).mono ?_
        intro e w4 hg
        obtain ⟨v4, F4, rfl, hS4⟩ := St.grew hS3 1 rfl hg
        have HL := grow_own (hS4.own_ 1 rfl) HL (by omega) (by omega)
        have xf := hS4.cell 0 rfl
        clear hS3 hg
        go_wp2_with fail
        refine (num01 _ _ x.code.length F4 _ (hS4.own_ 1 rfl) (by omega) (by omega) (by have := HL.out; omega)).mono ?_
        intro e w5 hg
        obtain ⟨v5, F5, rfl, hS5⟩ := St.grew hS4 1 rfl hg
        have HL := grow_own (hS5.own_ 1 rfl) HL (by omega) (by omega)
        have xf := hS5.cell 0 rfl
        clear hS4 hg
        have hS5' : St w [Res.box g7 (.cells #[.int .i64 x.params, .int .i64 x.locals, .slice A2 x.code.length c2] 64 (0, 0)), Res.own (Knd.int .u8) 5 v5 (P ++ ((l.take k).map funcBy).flatten ++ varB (zig x.params) ++ varB (zig x.locals) ++ varB (zig x.code.length)) F5, Res.box w.heap.size (.cells #[.slice A t.length c, .slice (some ad) l.length d] 32 (0, 0))] w5 := hS5
        generalize hQ : P ++ ((l.take k).map funcBy).flatten ++ varB (zig x.params) ++ varB (zig x.locals) ++ varB (zig x.code.length) = Q at hS5' HL
        have HQ := Lib.hid hQ
        clear hQ hS5
        go_wp2
        go_loopw [3, 7] (fun v' i wr => ∃ (n : Nat) (F' : List Nat), n ≤ x.code.length ∧ i = .int .i64 n ∧ St w [Res.box g7 (.cells #[.int .i64 x.params, .int .i64 x.locals, .slice A2 x.code.length c2] 64 (0, 0)), Res.own (Knd.int .u8) 5 v' (Q ++ ((x.code.take n).map insBy).flatten) F', Res.box w.heap.size (.cells #[.slice A t.length c, .slice (some ad) l.length d] 32 (0, 0))] wr) (fun _ i _ => x.code.length - (intOf i).toNat)
        case atStart => exact ⟨0, F5, by omega, rfl, by simpa using hS5'⟩
        case round =>
          clear hS5' xf
          obtain ⟨n, Fn, hn, rfl, hS⟩ := hrel
          have xf := hS.cell 0 rfl
          by_cases hlt2 : n < x.code.length
          · obtain ⟨y, hy⟩ := get_exU x.code n hlt2
            obtain ⟨z1, z2, z3, z4⟩ := hco y (List.mem_of_getElem? hy)
            obtain ⟨ad2, rfl, r0w, r1w⟩ := kIns_at hr2w n y hy
            have r0 := kept hS.bel r0w
            have HS := Lib.hid (flat_step insBy x.code n y hy)
            have HL3 := Lib.hid (show (Q ++ ((x.code.take n).map insBy).flatten).length ≤ 30000 by
              have h1 := flat_len insBy 12 (x.code.take n) (fun y hy => insBy_len (hco y (List.mem_of_mem_take hy)))
              have h2 := HL.out
              rw [List.length_take] at h1
              have : min n x.code.length ≤ 120 := by omega
              have := Nat.mul_le_mul_right 12 this
              rw [List.length_append]
              omega)
            clear hy
            go_wp2_with fail
            refine (num01 _ _ y.op Fn _ (hS.own_ 1 rfl) (by omega) (by omega) (by have := HL3.out; omega)).mono ?_
            intro e w6 hg
            obtain ⟨v6, F6, rfl, hS6⟩ := St.grew hS 1 rfl hg
            have HL3 := grow_own (hS6.own_ 1 rfl) HL3 (by omega) (by omega)
            have xf := hS6.cell 0 rfl
            have r1 := kept hS6.bel r1w
            clear hS hg r0
            go_wp2_with fail
            refine (num01 _ _ y.a F6 _ (hS6.own_ 1 rfl) (by omega) (by omega) (by have := HL3.out; omega)).mono ?_
            intro e w7 hg
            obtain ⟨v7, F7, rfl, hS7⟩ := St.grew hS6 1 rfl hg
            clear hS6 hg r1
            go_wp2
            go_roundw
            case rel => exact ⟨n + 1, F7, by omega, by go_num, by rw [HS.out]; simpa [insBy, numB] using hS7⟩
            case measure => simp [intOf]; omega
          · obtain rfl : n = x.code.length := by omega
            rw [List.take_length] at hS
            go_wp2
            go_roundw
            case rel => exact ⟨k + 1, Fn, by omega, by go_num, by rw [HX.out]; have h9 := hS.drop; rw [← HQ.out] at h9; simpa [funcBy, numB] using h9⟩
            case measure => simp [intOf]; omega
      · obtain rfl : k = l.length := by omega
        rw [List.take_length] at hS
        have eP : P ++ (l.map funcBy).flatten = saveBy t l := by
          rw [← HP.out]
          simp [saveBy, numB]
        rw [eP] at hS
        have hHR := HR.out
        obtain ⟨A5, c5, hv5, _, _⟩ := hS.row 0 rfl
        generalize hX : saveBy t l = X at hS hHR hv5
        subst hv5
        by_cases hl : (X.length : Int) ≤ 20000
        · rw [if_pos hl] at hHR
          subst hHR
          have HX := Lib.hid hX
          clear hX eP HR
          go_wp2
          go_ret
          exact hS.outRow 0 rfl
        · rw [if_neg hl] at hHR
          subst hHR
          have hl' : 20000 < (X.length : Int) := by omega
          have hgs := hS
          clear hX eP HR hl
          go_wp2
          go_ret
          refine newLit (enc := Value.int .u8) (h1 := fun _ => rfl) 5 w _ [] _ rfl _ rfl _ rfl (by simp) ?_
          exact hgs.bel
end Go.Proofs.Ytgnibbhcbdmigaa.Dat
