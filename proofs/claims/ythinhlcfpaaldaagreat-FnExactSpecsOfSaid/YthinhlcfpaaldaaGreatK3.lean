/- A bundle: FnI Ver Ver3 EqT Good StrP Str Str2 Mk MkT MkI MkM LawSt Save3. -/
import Derived.Test.YthinhlcfpaaldaaGreatK2
import Derived.Test.YthinhlcfpaaldaaGreatK1
import Derived.Deep.DeepCutAuto
import Derived.Lib.ConvBytes
import Derived.Laws.BytesString
import Derived.Laws.Cells
import Derived.IntWalk
/- slices.Contains, IndexFunc, ContainsFunc over whole numbers; the closure's contract is a premise. -/
namespace Go.Proofs.YthinhlcfpaaldaaGreat.Dat
open Go Go.RowKit Go.Proofs.YthinhlcfpaaldaaGreat.Mem
set_option linter.unusedVariables false
set_option linter.unusedSimpArgs false
/-- What a predicate's closure answers. -/
def Asks {α : Type} (P : Program) (d : Knd α) (mk : List Value → Value) (fn : FuncId) (caps : List Value) (p : α → Bool) (w : World) (l : List α) : Prop := ∀ x ∈ l, ∀ W, Below w.heap.size w W → ∀ cs, d.K W x cs → Calls P fn (mk cs :: caps).toArray W fun e w' => e = .returned (.bool (p x)) ∧ Below W.heap.size W w'
/-- The value of one cell; of a struct. -/
def one1 (cs : List Value) : Value := cs.headD undef
def agg1 (cs : List Value) : Value := .agg cs.toArray
/-- The place of the first one, or -1. -/
def IsIdx {α : Type} (p : α → Bool) (l : List α) (w : World) (e : Ending) (w' : World) : Prop := ∃ r : Int, e = .returned (.int .i64 r) ∧ decide (0 ≤ r) = l.any p ∧ Below w.heap.size w w'
set_option maxHeartbeats 1000000 in
theorem idxFInt (A : Option Addr) (c : Nat) (l : List Int) (p1 p2 : Value) (p : Int → Bool) (w : World) (hr : ((Knd.int .i64)).Row w A l.length l) (hl : l.length ≤ 1048576) (hp : Asks Tryz.prog (Knd.int .i64) one1 240 [p1, p2] p w l) :
    Calls Tryz.prog 322 #[.slice A l.length c, .func (.func 240) #[] #[p1, p2]] w (IsIdx p l w) := by
  go_enter Tryz.func322, Tryz.ntmps322
  go_wp2
  go_loopw [8] (fun i wr => ∃ k : Nat, k ≤ l.length ∧ i = .int .i64 k ∧ Hid (∀ j x, l[j]? = some x → j < k → p x = false) ∧ Below w.heap.size w wr) (fun i _ => l.length - (intOf i).toNat)
  case atStart => exact ⟨0, by omega, rfl, (fun j x _ h => by omega), Below.refl _ _⟩
  case round =>
    obtain ⟨k, hk, rfl, ho, hb⟩ := hrel
    by_cases hlt : k < l.length
    · obtain ⟨x, hx⟩ := get_exU l k hlt
      obtain ⟨ad, rfl, q0⟩ := (hr.below hb).one k x hx; have C := hp x (List.mem_of_getElem? hx) wr hb [.int .i64 x] rfl; simp only [one1, List.headD] at C
      cases hq : p x
      · have HN := Lib.hid (not_step ho.out hx hq)
        rw [hq] at C
        clear hx hq
        go_wp2_with fail
        refine C.mono ?_
        rintro e w' ⟨rfl, hb2⟩
        go_wp2
        go_roundw
        case rel => exact ⟨k + 1, by omega, by go_num, HN, bl9⟩
        case measure => simp [intOf]; omega
      · have HE := Lib.hid (any_yes (p := p) hx hq)
        rw [hq] at C
        clear hx hq
        go_wp2_with fail
        refine C.mono ?_
        rintro e w' ⟨rfl, hb2⟩
        go_wp2
        go_ret
        exact ⟨_, rfl, by rw [HE.out]; simp, bl9⟩
    · obtain rfl : k = l.length := by omega
      have HE := Lib.hid (any_no (p := p) (fun j x h h2 => ho.out j x h h2))
      go_wp2
      go_ret
      exact ⟨_, rfl, by rw [HE.out]; simp, hb⟩
theorem hasFInt (A : Option Addr) (c : Nat) (l : List Int) (p1 p2 : Value) (p : Int → Bool) (w : World) (hr : ((Knd.int .i64)).Row w A l.length l) (hl : l.length ≤ 1048576) (hp : Asks Tryz.prog (Knd.int .i64) one1 240 [p1, p2] p w l) :
    Calls Tryz.prog 239 #[.slice A l.length c, .func (.func 240) #[] #[p1, p2]] w fun e w' => e = .returned (.bool (l.any p)) ∧ Below w.heap.size w w' := by
  go_enter Tryz.func239, Tryz.ntmps239
  go_wp2_with fail
  refine (idxFInt A c l _ _ p _ hr hl hp).mono ?_
  rintro e w' ⟨r, rfl, he, hb⟩
  have HE := Lib.hid he
  clear he
  go_wp2
  go_ret
  exact ⟨ret_bool HE.out, bl9⟩
set_option maxHeartbeats 1000000 in
theorem idxInt (A : Option Addr) (c : Nat) (l : List Int) (y : Int) (w : World) (hr : (Knd.int .i64).Row w A l.length l) (hl : l.length ≤ 1048576) :
    Calls Tryz.prog 262 #[.slice A l.length c, .int .i64 y] w (IsIdx (fun x => decide (x = y)) l w) := by
  go_enter Tryz.func262, Tryz.ntmps262
  go_wp2
  go_loopw [8] (fun i wr => ∃ k : Nat, k ≤ l.length ∧ i = .int .i64 k ∧ Hid (∀ j x, l[j]? = some x → j < k → decide (x = y) = false) ∧ w = wr) (fun i _ => l.length - (intOf i).toNat)
  case atStart => exact ⟨0, by omega, rfl, (fun j x _ h => by omega), rfl⟩
  case round =>
    obtain ⟨k, hk, rfl, ho, rfl⟩ := hrel
    by_cases hlt : k < l.length
    · obtain ⟨x, hx⟩ := get_exU l k hlt
      obtain ⟨ad, rfl, q0⟩ := hr.one k x hx
      by_cases hq : x = y
      · have HE := Lib.hid (any_yes (p := fun x => decide (x = y)) hx (decide_eq_true hq))
        subst hq
        clear hx
        go_wp2
        go_ret
        exact ⟨_, rfl, by rw [HE.out]; simp, Below.refl _ _⟩
      · have HN := Lib.hid (not_step ho.out hx (decide_eq_false hq))
        have hq2 : (y == x) = false := by simpa using fun e => hq e.symm
        clear hx
        go_wp2
        go_roundw
        case rel => exact ⟨k + 1, by omega, by go_num, HN, trivial⟩
        case measure => simp [intOf]; omega
    · obtain rfl : k = l.length := by omega
      have HE := Lib.hid (any_no (p := fun x => decide (x = y)) (fun j x h h2 => ho.out j x h h2))
      go_wp2
      go_ret
      exact ⟨_, rfl, by rw [HE.out]; simp, Below.refl _ _⟩
theorem hasInt (A : Option Addr) (c : Nat) (l : List Int) (y : Int) (w : World) (hr : (Knd.int .i64).Row w A l.length l) (hl : l.length ≤ 1048576) :
    Calls Tryz.prog 216 #[.slice A l.length c, .int .i64 y] w fun e w' => e = .returned (.bool (l.any (fun x => decide (x = y)))) ∧ Below w.heap.size w w' := by
  go_enter Tryz.func216, Tryz.ntmps216
  go_wp2_with fail
  refine (idxInt A c l y _ hr hl).mono ?_
  rintro e w' ⟨r, rfl, he, hb⟩
  have HE := Lib.hid he
  clear he
  go_wp2
  go_ret
  exact ⟨ret_bool HE.out, bl9⟩
theorem vcl (A : Option Addr) (n c : Nat) (m : Nat) (left h : Int) (g4 g7 : Nat) (ad : Addr) (w : World) (h1 : w.cell? ⟨g4, 0, none⟩ = some (.slice (some ad) n c)) (h2 : w.cell? ⟨g7, 0, none⟩ = some (.int .i64 left)) (hm : m < n) (h3 : w.cell? (ad.add m) = some (.int .i64 h)) (hn : n ≤ 1048576) :
    Calls Tryz.prog 240 #[.int .i64 m, .pointer (some ⟨g4, 0, none⟩), .pointer (some ⟨g7, 0, none⟩)] w fun e w' => e = .returned (.bool (decide (h ≠ left))) ∧ Below w.heap.size w w' := by
  by_cases hq : h = left
  · subst hq
    go_enter Tryz.func240, Tryz.ntmps240
    go_wp2
    go_region_held3 (fun w' => w'.cell? ⟨g4, 0, none⟩ = some (.slice (some ad) n c) ∧ w'.cell? ⟨g7, 0, none⟩ = some (.int .i64 h) ∧ w'.cell? (ad.add m) = some (.int .i64 h) ∧ Below w.heap.size w w') ((refine ⟨?_, ?_, ?_, ?_⟩ <;> first | assumption | exact bl9)) (first | fail)
    go_wp2
    go_ret
    exact ⟨by simp, bl9⟩
  · have hq2 : (h != left) = true := by simpa using hq
    go_enter Tryz.func240, Tryz.ntmps240
    go_wp2
    go_region_held3 (fun w' => w'.cell? ⟨g4, 0, none⟩ = some (.slice (some ad) n c) ∧ w'.cell? ⟨g7, 0, none⟩ = some (.int .i64 left) ∧ w'.cell? (ad.add m) = some (.int .i64 h) ∧ Below w.heap.size w w') ((refine ⟨?_, ?_, ?_, ?_⟩ <;> first | assumption | exact bl9)) (first | fail)
    go_wp2
    go_ret
    exact ⟨by simp [hq], bl9⟩
theorem modOkI' (A B : Option Addr) (c d : Nat) (t : List ByteArray) (l : List DFunc) (w : World) (ht : Knd.str.Row w A t.length t) (hr : kFunc.Row w B l.length l) (htm : t.length ≤ 1048576) (hm : l.length ≤ 1048576) (htv : ∀ x ∈ t, x.size ≤ maxLen) (hv : ∀ x ∈ l, x.code.length ≤ 1048576 ∧ -9223372036854775808 ≤ x.locals ∧ x.locals ≤ 9223372036854775807) {b : Bool} (hb : modB t l = b) :
    Calls Tryz.prog 236 #[.agg #[.slice A t.length c, .slice B l.length d]] w fun e w' => e = .returned (.bool b) ∧ Below w.heap.size w w' := hb ▸ modOkI A B c d t l w ht hr htm hm htv hv
def trV (r : Int × Int × Int) : Value := .agg #[.int .i64 r.1, .int .i64 r.2.1, .int .i64 r.2.2]
set_option maxHeartbeats 4000000 in
set_option maxRecDepth 100000 in
theorem verI (A B : Option Addr) (c d : Nat) (t : List ByteArray) (l : List DFunc) (w : World) (ht : Knd.str.Row w A t.length t) (hr : kFunc.Row w B l.length l) (htm : t.length ≤ 1048576) (hm : l.length ≤ 1048576) (htv : ∀ x ∈ t, x.size ≤ maxLen) (hv : ∀ x ∈ l, x.code.length ≤ 1048576 ∧ -9223372036854775808 ≤ x.locals ∧ x.locals ≤ 9223372036854775807) :
    Calls Tryz.prog 148 #[.agg #[.slice A t.length c, .slice B l.length d]] w fun e w' => e = .returned (trV (verL t l)) ∧ Below w.heap.size w w' := by
  cases hb : modB t l
  · have e : verL t l = (1, 0, 0) := by unfold verL; rw [hb]; rfl
    rw [e]
    have HB := Lib.hid hb
    clear e hb
    go_enter Tryz.func148, Tryz.ntmps148
    go_wp2_with fail
    refine (modOkI' A B c d t l _ (ht.below bl9) (hr.below bl9) htm hm htv hv HB.out).mono ?_
    rintro e w1 ⟨rfl, hb1⟩
    obtain ⟨hc, hf⟩ := bcell hb1
    have hz := hb1.size
    simp at hz
    have y0 : w.heap.size + 1 < w1.heap.size := by omega
    go_wp2
    refine bodyPost_ret (v := .agg #[.int .i64 1, .int .i64 0, .int .i64 0]) (by simp [results, Tryz.results148, go_sem, true_and, *]) rfl ⟨rfl, bl9⟩
  have hfit := modFit hb
  obtain ⟨R, hR⟩ : ∃ R, funcsT l l 0 = R := ⟨_, rfl⟩
  have e : verL t l = R := by unfold verL; rw [hb, hR]; rfl
  rw [e]
  have HB := Lib.hid hb
  have HR := Lib.hid hR
  have n12 := hfit.n12
  clear e hb hR
  have hS0 := ((St.start w).made (.cells #[.slice A t.length c, .slice B l.length d] 36 (0, 0))).madeAt (.cells #[.int .i64 0, .int .i64 0, .int .i64 0] 213 (0, 0)) (w.heap.size + 1) (by simp)
  go_enter Tryz.func148, Tryz.ntmps148
  go_wp2_with fail
  refine (modOkI' A B c d t l _ (ht.below hS0.bel) (hr.below hS0.bel) htm hm htv hv HB.out).mono ?_
  rintro e w1 ⟨rfl, hb1⟩
  have hS := hS0.step hb1
  have x0 := hS.cell 1 rfl
  clear hS0 hb1
  go_wp2
  go_loopw [17] (fun i wr => ∃ k : Nat, k ≤ l.length ∧ i = .int .i64 k ∧ Hid (funcsT l (l.drop k) k = R) ∧ St w [Res.box (w.heap.size + 1) (.cells #[.int .i64 0, .int .i64 0, .int .i64 0] 213 (0, 0)), Res.box w.heap.size (.cells #[.slice A t.length c, .slice B l.length d] 36 (0, 0))] wr) (fun i _ => l.length - (intOf i).toNat)
  case atStart => exact ⟨0, by omega, rfl, HR, hS⟩
  case round =>
    clear hS x0
    obtain ⟨k, hk, rfl, hT, hS⟩ := hrel
    have x0 := hS.cell 1 rfl
    have z0 := hS.cell 0 rfl
    have zf := hS.free 0 rfl
    by_cases hlt : k < l.length
    · obtain ⟨y, hy⟩ := get_exU l k hlt
      have HT := Lib.hid ((funcsT_at hy).symm.trans hT.out)
      have hym := List.mem_of_getElem? hy
      have n1 := hfit.c1 y hym
      have n120 := hfit.c120 y hym
      have hH := hfit.hgt hym
      obtain ⟨ad, A2, c2, rfl, _, _, q2', hq, hr2⟩ := kFunc_at hr k y hy
      have HY := Lib.hid hy
      clear hT hy
      go_wp2_with fail
      refine (depthsI A (some ad) c d t l k y _ (hr.below hS.bel) hfit HY.out).mono ?_
      intro e w2 hn
      obtain ⟨v, F, rfl, hS1⟩ := hS.newRow hn
      obtain ⟨D, hD⟩ : ∃ D, depthsL l y.code = D := ⟨_, rfl⟩
      rw [hD] at hS1 hH HT
      obtain ⟨g, cg, hv', hgF⟩ := own_form (hS1.get 0 rfl) (by rw [hH.1]; omega)
      rw [hH.1] at hv'
      subst hv'
      clear hn hS x0 z0 zf hD
      obtain ⟨g4, hg4⟩ : ∃ g4, w2.heap.size = g4 := ⟨_, rfl⟩
      have hS2 := hS1.madeAt (.cells #[.slice (some ⟨g, 0, none⟩) y.code.length cg] 81 (0, 0)) g4 hg4
      have x0 := hS2.cell 3 rfl
      have q2 := kept hS2.bel q2'
      go_wp2
      go_loopw [30] (fun i wr => ∃ pc : Nat, pc ≤ y.code.length ∧ i = .int .i64 pc ∧ Hid (codeT l D (y.code.drop pc) pc = codeT l D y.code 0) ∧ St w [Res.box g4 (.cells #[.slice (some ⟨g, 0, none⟩) y.code.length cg] 81 (0, 0)), Res.own (Knd.int .i64) 3 (.slice (some ⟨g, 0, none⟩) y.code.length cg) D F, Res.box (w.heap.size + 1) (.cells #[.int .i64 0, .int .i64 0, .int .i64 0] 213 (0, 0)), Res.box w.heap.size (.cells #[.slice A t.length c, .slice (some ad) l.length d] 36 (0, 0))] wr) (fun i _ => y.code.length - (intOf i).toNat)
      case atStart => exact ⟨0, by omega, rfl, rfl, hS2⟩
      case round =>
        clear hS1 hS2 x0 q2 hg4
        obtain ⟨pc, hpc, rfl, hQ, hS⟩ := hrel
        by_cases hlt2 : pc < y.code.length
        · obtain ⟨x, hx⟩ := get_exU y.code pc hlt2
          have HQ := Lib.hid ((codeT_at hx).symm.trans hQ.out)
          have hxf := hfit.fit hym (List.mem_of_getElem? hx)
          obtain ⟨ad2, rfl, r0, r1⟩ := kIns_at (hr2.below hS.bel) pc x hx
          have hlen : pc < D.length := by rw [hH.1]; exact hlt2
          have u0 := hS.cell1 1 rfl pc _ (at0_get hlen)
          have hat := hH.at_ pc
          obtain ⟨h, hh⟩ : ∃ h, at0 D pc = h := ⟨_, rfl⟩
          rw [hh] at u0 hat
          have Hh := Lib.hid hh
          obtain ⟨g6, hg6⟩ : ∃ g6, wr.heap.size = g6 := ⟨_, rfl⟩
          have hS0 := hS.madeAt (.cells #[.int .i64 x.op, .int .i64 x.a] 305 (0, 0)) g6 hg6
          have ug := kept (bl_alloc (Below.refl _ _) (.cells #[.int .i64 x.op, .int .i64 x.a] 305 (0, 0))) u0
          have x0 := hS.cell 0 rfl
          have gl4 : g4 < g6 := by rw [← hg6]; exact hS.blt 0 rfl
          have gl : g < g6 := by rw [← hg6]; exact hS.lts 1 rfl g hgF
          clear hx hQ hlen hh
          by_cases h0 : h < 0
          · have e : Hid (insT l D x pc = 0) := Lib.hid (by unfold insT; rw [if_pos (by rw [Hh.out]; exact h0)])
            go_wp2
            go_roundw
            case rel => exact ⟨pc + 1, by omega, by go_num, Lib.hid (by have := HQ.out; rwa [e.out, if_neg (by simp)] at this), hS.al _⟩
            case measure => simp [intOf]; omega
          have h0' : 0 ≤ h := by omega
          go_upto_region 11 with fail
          go_cut [7, 8] (fun s7 s8 wx => ∃ g7 : Nat, s7 = .pointer (some ⟨g7, 0, none⟩) ∧ s8 = .bool (canB l x h) ∧ St w (Res.box g7 (.cells #[.int .i64 (leftOf l x h)] 3 (0, 0)) :: Res.box g6 (.cells #[.int .i64 x.op, .int .i64 x.a] 305 (0, 0)) :: [Res.box g4 (.cells #[.slice (some ⟨g, 0, none⟩) y.code.length cg] 81 (0, 0)), Res.own (Knd.int .i64) 3 (.slice (some ⟨g, 0, none⟩) y.code.length cg) D F, Res.box (w.heap.size + 1) (.cells #[.int .i64 0, .int .i64 0, .int .i64 0] 213 (0, 0)), Res.box w.heap.size (.cells #[.slice A t.length c, .slice (some ad) l.length d] 36 (0, 0))]) wx)
          case first =>
            generalize wr.alloc (.cells #[.int .i64 x.op, .int .i64 x.a] 305 (0, 0)) = W at *
            clear u0 r0 r1 x0 hg6 gl gl4
            have c0 := hS0.cell 4 rfl 0; have c1 := hS0.cell 4 rfl 1; have c2 := hS0.cell 0 rfl 0; have c3 := hS0.cell 0 rfl 1; have c4 := hS0.cell 1 rfl 0; have k1 := World.new_ne _ _ c0; have k2 := World.new_ne _ _ c2; have k3 := World.new_ne _ _ c4; have k4 := World.new_ne _ _ ug
            go_region_held3 (fun w' => w'.cell? ⟨w.heap.size, 0, none⟩ = some (.slice A t.length c) ∧ w'.cell? ⟨w.heap.size, 1, none⟩ = some (.slice (some ad) l.length d) ∧ w'.cell? ⟨g6, 0, none⟩ = some (.int .i64 x.op) ∧ w'.cell? ⟨g6, 1, none⟩ = some (.int .i64 x.a) ∧ w'.cell? ⟨g4, 0, none⟩ = some (.slice (some ⟨g, 0, none⟩) y.code.length cg) ∧ w'.cell? ⟨g, pc, none⟩ = some (.int .i64 h)) ((go_keep; done)) (first | (go_at_call 237; refine (leavesI _ _ _ _ _ l x h _ (hr.below (by first | exact hS0.drew.bel | exact (hS0.al _).drew.bel)) (by omega) hfit.par (by omega) (by omega)).mono ?_; rintro e w' ⟨rfl, hb2⟩; (first | have ug := kept hb2 ug | have ug := kept hb2 (kept (bl_drew (bl_alloc (Below.refl _ _) _)) ug)); (first | (have hS0 := hS0.drew.step hb2; have c0 := hS0.cell 4 rfl 0; have c1 := hS0.cell 4 rfl 1; have c2 := hS0.cell 0 rfl 0; have c3 := hS0.cell 0 rfl 1; have c4 := hS0.cell 1 rfl 0; have k1 := World.new_ne _ _ c0; have k2 := World.new_ne _ _ c2; have k3 := World.new_ne _ _ c4; have k4 := World.new_ne _ _ ug) | (have hS0 := (hS0.made _).drew.step hb2; have c0 := hS0.cell 5 rfl 0; have c1 := hS0.cell 5 rfl 1; have c2 := hS0.cell 1 rfl 0; have c3 := hS0.cell 1 rfl 1; have c4 := hS0.cell 2 rfl 0; have n0 := hS0.cell 0 rfl; have nf := hS0.free 0 rfl))))
            all_goals (go_wp2_with fail; go_meet; first | exact ⟨_, rfl, rfl, hS0.made _⟩ | exact ⟨_, rfl, rfl, hS0.set 0 rfl 0 _⟩)
          case rest =>
            clear hS0 ug hS x0 r0 r1 u0 hg6 gl gl4
            obtain ⟨g7, rfl, rfl, hS⟩ := hcut
            have hW := hS.bel
            obtain ⟨left, hl⟩ : ∃ left, leftOf l x h = left := ⟨_, rfl⟩
            rw [hl] at hS
            cases hok : canB l x h
            · have hins := Lib.hid (show insT l D x pc = 2 by unfold insT; rw [if_neg (by rw [Hh.out]; omega), Hh.out, hok]; rfl)
              have z0 := hS.cell 4 rfl
              have zf := hS.free 4 rfl
              clear hok
              · have eR : R = (2, (k : Int), (pc : Int)) := by rw [← HT.out, ← HQ.out, if_pos (by rw [hins.out]; decide), hins.out]
                subst eR
                clear HT HQ HR
                go_wp2
                refine bodyPost_ret (v := .agg #[.int .i64 2, .int .i64 k, .int .i64 pc]) (by simp [results, Tryz.results148, go_sem, true_and, *]) rfl ⟨rfl, bl9⟩
            · have HOK := Lib.hid hok
              have hnf := nexts_fit hxf hlt2
              have hnl : (nexts x pc).length ≤ 2 := by unfold nexts; split <;> (try split) <;> (try split) <;> simp
              have HI : ∀ r, (if (nexts x pc).any (fun tq => decide (tq = (y.code.length : Int))) then (3 : Int) else if (nexts x pc).any (fun tq => decide (at0 D tq ≠ left)) then 4 else 0) = r → Hid (insT l D x pc = r) := fun r e => Lib.hid (by unfold insT; rw [if_neg (by rw [Hh.out]; omega), Hh.out, hok, hl, hH.1]; exact e)
              have x6 := hS.cell 1 rfl
              clear hok hl
              go_wp2_with fail
              refine (followsI x pc _ (by omega)).mono ?_
              intro e w4 hn
              obtain ⟨v2, F2, rfl, hS1⟩ := hS.newRow hn
              obtain ⟨A3, c3, rfl, _, hrow⟩ := hS1.row 0 rfl
              obtain ⟨ns, hns⟩ : ∃ ns, nexts x pc = ns := ⟨_, rfl⟩
              rw [hns] at hS1 hrow hnl hnf HI
              rw [hns]
              have HNF := Lib.hid hnf
              have x4 := hS1.cell 3 rfl
              clear hn hS hns hnf hW x6
              go_wp2_with fail
              refine (hasInt A3 c3 ns y.code.length _ hrow (by omega)).mono ?_
              rintro e w5 ⟨rfl, hb5⟩
              have hS5 := hS1.step hb5
              clear hS1 x4 hb5 hrow
              cases hE : ns.any (fun tq => decide (tq = (y.code.length : Int)))
              rotate_left
              · have hins := HI 3 (by rw [hE]; rfl)
                have z0 := hS5.cell 5 rfl
                have zf := hS5.free 5 rfl
                have hW := hS5.bel
                clear hE HI
                have eR : R = (3, (k : Int), (pc : Int)) := by rw [← HT.out, ← HQ.out, if_pos (by rw [hins.out]; decide), hins.out]
                subst eR
                clear HT HQ HR
                go_wp2
                refine bodyPost_ret (v := .agg #[.int .i64 3, .int .i64 k, .int .i64 pc]) (by simp [results, Tryz.results148, go_sem, true_and, *]) rfl ⟨rfl, bl9⟩
              have hnE : ∀ tq ∈ ns, tq ≠ (y.code.length : Int) := fun tq ht e => by
                have := List.any_eq_false.1 hE tq ht
                simp [e] at this
              have HI2 : ∀ r, (if ns.any (fun tq => decide (at0 D tq ≠ left)) then (4 : Int) else 0) = r → Hid (insT l D x pc = r) := fun r e => HI r (by rw [hE]; exact e)
              have HNE := Lib.hid hnE
              have c7 : w5.cell? ⟨g7, 0, none⟩ = some (.int .i64 left) := hS5.cell 1 rfl 0
              have c4 : w5.cell? ⟨g4, 0, none⟩ = some (.slice (some ⟨g, 0, none⟩) y.code.length cg) := hS5.cell 3 rfl 0
              have hD := fun (m : Nat) hm => Lib.hid (hS5.cell1 4 rfl m _ (at0_get (d := D) (k := m) hm))
              obtain ⟨A6, c6, hv6, _, hrow⟩ := hS5.row 0 rfl
              cases hv6
              have HA := Lib.hid (show Asks Tryz.prog (Knd.int .i64) one1 240 [.pointer (some ⟨g4, 0, none⟩), .pointer (some ⟨g7, 0, none⟩)] (fun tq => decide (at0 D tq ≠ left)) w5 ns from by
                intro tq ht W hb cs hK
                obtain rfl : cs = [.int .i64 tq] := hK
                obtain ⟨h1, h2⟩ := HNF.out tq ht
                have h3 := HNE.out tq ht
                obtain ⟨m, rfl⟩ : ∃ m : Nat, tq = m := ⟨tq.toNat, by omega⟩
                have hd := kept hb (hD m (by rw [hH.1]; omega)).out
                have ea : (⟨g, 0, none⟩ : Addr).add m = ⟨g, m, none⟩ := by unfold Addr.add; split <;> simp_all
                exact vcl (some ⟨g, 0, none⟩) y.code.length cg m left (at0 D m) g4 g7 ⟨g, 0, none⟩ W (kept hb c4) (kept hb c7) (by omega) (by rw [ea]; exact hd) (by omega))
              clear hE HI hD hnE c7 c4
              go_wp2_with fail
              refine (hasFInt A3 c3 ns _ _ _ _ hrow (by omega) HA.out).mono ?_
              rintro e w6 ⟨rfl, hb6⟩
              have hS6 := hS5.step hb6
              clear hS5 hb6 hrow HA
              cases hJ : ns.any (fun tq => decide (at0 D tq ≠ left))
              rotate_left
              · have hins := HI2 4 (by rw [hJ]; rfl)
                have z0 := hS6.cell 5 rfl
                have zf := hS6.free 5 rfl
                have hW := hS6.bel
                clear hJ HI2
                have eR : R = (4, (k : Int), (pc : Int)) := by rw [← HT.out, ← HQ.out, if_pos (by rw [hins.out]; decide), hins.out]
                subst eR
                clear HT HQ HR
                go_wp2
                refine bodyPost_ret (v := .agg #[.int .i64 4, .int .i64 k, .int .i64 pc]) (by simp [results, Tryz.results148, go_sem, true_and, *]) rfl ⟨rfl, bl9⟩
              have e0 := HI2 0 (by rw [hJ]; rfl)
              clear hJ HI2
              go_wp2
              go_roundw
              case rel => exact ⟨pc + 1, by omega, by go_num, Lib.hid (by have := HQ.out; rwa [e0.out, if_neg (by simp)] at this), hS6.drop.drop.drop⟩
              case measure => simp [intOf]; omega
        · obtain rfl : pc = y.code.length := by omega
          have hQ2 : Hid (codeT l D y.code 0 = none) := Lib.hid (by have := hQ.out; rw [List.drop_length] at this; exact this.symm)
          have HT2 : Hid (funcsT l (l.drop (k + 1)) (k + 1) = R) := Lib.hid (by have := HT.out; rw [hQ2.out] at this; exact this)
          go_wp2
          go_roundw
          case rel => exact ⟨k + 1, by omega, by go_num, HT2, hS.drop.drop⟩
          case measure => simp [intOf]; omega
    · obtain rfl : k = l.length := by omega
      have eR : (0, 0, 0) = R := by have := hT.out; rwa [List.drop_length] at this
      subst eR
      have hW := hS.bel
      clear hT HR
      go_wp2
      refine bodyPost_ret (v := .agg #[.int .i64 0, .int .i64 0, .int .i64 0]) (by simp [results, Tryz.results148, go_sem, true_and, *]) rfl ⟨rfl, bl9⟩
theorem modOk01' (A B : Option Addr) (c d : Nat) (t : List ByteArray) (l : List DFunc) (w : World) (ht : Knd.str.Row w A t.length t) (hr : kFunc.Row w B l.length l) (htm : t.length ≤ 1048576) (hm : l.length ≤ 1048576) (htv : ∀ x ∈ t, x.size ≤ maxLen) (hv : ∀ x ∈ l, x.code.length ≤ 1048576 ∧ -9223372036854775808 ≤ x.locals ∧ x.locals ≤ 9223372036854775807) {b : Bool} (hb : modB t l = b) :
    Calls Tryz.prog 231 #[.agg #[.slice A t.length c, .slice B l.length d]] w fun e w' => e = .returned (.bool b) ∧ Below w.heap.size w w' := hb ▸ modOk01 A B c d t l w ht hr htm hm htv hv
theorem insT_no {l : List DFunc} {d : List Int} {x : DIns} {pc : Nat} {h : Int} (hh : at0 d pc = h) (h0 : 0 ≤ h) (k : h < (uses l x.op x.a).1 ∨ 16 < leftOf l x h) : insT l d x pc = 2 := by
  unfold insT canB
  rw [hh, if_neg (by omega)]
  have e : (decide ((uses l x.op x.a).1 ≤ h) && decide (leftOf l x h ≤ 16)) = false := by
    rcases k with k | k
    · rw [decide_eq_false (by omega), Bool.false_and]
    · rw [decide_eq_false (p := leftOf l x h ≤ 16) (by omega), Bool.and_false]
  rw [e]
  rfl
theorem insT_go {l : List DFunc} {d : List Int} {x : DIns} {pc : Nat} {h : Int} (hh : at0 d pc = h) (h0 : 0 ≤ h) (k1 : (uses l x.op x.a).1 ≤ h) (k2 : leftOf l x h ≤ 16) : insT l d x pc = if (nexts x pc).any (fun q => decide (q = (d.length : Int))) then 3 else if (nexts x pc).any (fun q => decide (at0 d q ≠ leftOf l x h)) then 4 else 0 := by
  unfold insT canB
  rw [hh, if_neg (by omega), decide_eq_true k1, decide_eq_true k2]
  rfl
set_option maxHeartbeats 4000000 in
set_option maxRecDepth 100000 in
theorem ver03 (A B : Option Addr) (c d : Nat) (t : List ByteArray) (l : List DFunc) (w : World) (ht : Knd.str.Row w A t.length t) (hr : kFunc.Row w B l.length l) (htm : t.length ≤ 1048576) (hm : l.length ≤ 1048576) (htv : ∀ x ∈ t, x.size ≤ maxLen) (hv : ∀ x ∈ l, x.code.length ≤ 1048576 ∧ -9223372036854775808 ≤ x.locals ∧ x.locals ≤ 9223372036854775807) :
    Calls Tryz.prog 144 #[.agg #[.slice A t.length c, .slice B l.length d]] w fun e w' => e = .returned (trV (verL t l)) ∧ Below w.heap.size w w' := by
  cases hb : modB t l
  · have e : verL t l = (1, 0, 0) := by unfold verL; rw [hb]; rfl
    rw [e]
    have HB := Lib.hid hb
    clear e hb
    go_enter Tryz.func144, Tryz.ntmps144
    go_wp2_with fail
    refine (modOk01' A B c d t l _ (ht.below bl9) (hr.below bl9) htm hm htv hv HB.out).mono ?_
    rintro e w1 ⟨rfl, hb1⟩
    obtain ⟨hc, hf⟩ := bcell hb1
    have hz := hb1.size
    simp at hz
    have y0 : w.heap.size + 1 < w1.heap.size := by omega
    go_wp2
    refine bodyPost_ret (v := .agg #[.int .i64 1, .int .i64 0, .int .i64 0]) (by simp [results, Tryz.results144, go_sem, true_and, *]) rfl ⟨rfl, bl9⟩
  have hfit := modFit hb
  obtain ⟨R, hR⟩ : ∃ R, funcsT l l 0 = R := ⟨_, rfl⟩
  have e : verL t l = R := by unfold verL; rw [hb, hR]; rfl
  rw [e]
  have HB := Lib.hid hb
  have HR := Lib.hid hR
  have n12 := hfit.n12
  clear e hb hR
  have hS0 := ((St.start w).made (.cells #[.slice A t.length c, .slice B l.length d] 36 (0, 0))).madeAt (.cells #[.int .i64 0, .int .i64 0, .int .i64 0] 213 (0, 0)) (w.heap.size + 1) (by simp)
  go_enter Tryz.func144, Tryz.ntmps144
  go_wp2_with fail
  refine (modOk01' A B c d t l _ (ht.below hS0.bel) (hr.below hS0.bel) htm hm htv hv HB.out).mono ?_
  rintro e w1 ⟨rfl, hb1⟩
  have hS := hS0.step hb1
  have x0 := hS.cell 1 rfl
  clear hS0 hb1
  go_wp2
  go_loopw [3] (fun i wr => ∃ k : Nat, k ≤ l.length ∧ i = .int .i64 k ∧ Hid (funcsT l (l.drop k) k = R) ∧ St w [Res.box (w.heap.size + 1) (.cells #[.int .i64 0, .int .i64 0, .int .i64 0] 213 (0, 0)), Res.box w.heap.size (.cells #[.slice A t.length c, .slice B l.length d] 36 (0, 0))] wr) (fun i _ => l.length - (intOf i).toNat)
  case atStart => exact ⟨0, by omega, rfl, HR, hS⟩
  case round =>
    clear hS x0
    obtain ⟨k, hk, rfl, hT, hS⟩ := hrel
    have x0 := hS.cell 1 rfl
    have z0 := hS.cell 0 rfl
    have zf := hS.free 0 rfl
    by_cases hlt : k < l.length
    · obtain ⟨y, hy⟩ := get_exU l k hlt
      have HT := Lib.hid ((funcsT_at hy).symm.trans hT.out)
      have hym := List.mem_of_getElem? hy
      have n1 := hfit.c1 y hym
      have n120 := hfit.c120 y hym
      have hH := hfit.hgt hym
      obtain ⟨ad, A2, c2, rfl, _, _, q2', hq, hr2⟩ := kFunc_at hr k y hy
      have q2 := kept hS.bel q2'
      have HY := Lib.hid hy
      clear hT hy
      go_wp2_with fail
      refine (depths03 A (some ad) c d t l k y _ (hr.below hS.bel) hfit HY.out).mono ?_
      intro e w2 hn
      obtain ⟨v, F, rfl, hS1⟩ := hS.newRow hn
      obtain ⟨D, hD⟩ : ∃ D, depthsL l y.code = D := ⟨_, rfl⟩
      rw [hD] at hS1 hH HT
      obtain ⟨g, cg, hv', hgF⟩ := own_form (hS1.get 0 rfl) (by rw [hH.1]; omega)
      rw [hH.1] at hv'
      subst hv'
      clear hn hS x0 z0 zf hD q2
      go_wp2
      go_loopw [6] (fun i wr => ∃ pc : Nat, pc ≤ y.code.length ∧ i = .int .i64 pc ∧ Hid (codeT l D (y.code.drop pc) pc = codeT l D y.code 0) ∧ St w [Res.own (Knd.int .i64) 3 (.slice (some ⟨g, 0, none⟩) y.code.length cg) D F, Res.box (w.heap.size + 1) (.cells #[.int .i64 0, .int .i64 0, .int .i64 0] 213 (0, 0)), Res.box w.heap.size (.cells #[.slice A t.length c, .slice (some ad) l.length d] 36 (0, 0))] wr) (fun i _ => y.code.length - (intOf i).toNat)
      case atStart => exact ⟨0, by omega, rfl, rfl, hS1⟩
      case round =>
        clear hS1
        obtain ⟨pc, hpc, rfl, hQ, hS⟩ := hrel
        by_cases hlt2 : pc < y.code.length
        · obtain ⟨x, hx⟩ := get_exU y.code pc hlt2
          have HQ := Lib.hid ((codeT_at hx).symm.trans hQ.out)
          have hxf := hfit.fit hym (List.mem_of_getElem? hx)
          obtain ⟨ad2, rfl, r0, r1⟩ := kIns_at (hr2.below hS.bel) pc x hx
          have hlen : pc < D.length := by rw [hH.1]; exact hlt2
          have u0 := hS.cell1 0 rfl pc _ (at0_get hlen)
          have hat := hH.at_ pc
          obtain ⟨h, hh⟩ : ∃ h, at0 D pc = h := ⟨_, rfl⟩
          rw [hh] at u0 hat
          have Hh := Lib.hid hh
          clear hx hQ hlen hh
          by_cases h0 : h < 0
          · have e : Hid (insT l D x pc = 0) := Lib.hid (by unfold insT; rw [if_pos (by rw [Hh.out]; exact h0)])
            go_wp2
            go_roundw
            case rel => exact ⟨pc + 1, by omega, by go_num, Lib.hid (by have := HQ.out; rwa [e.out, if_neg (by simp)] at this), hS⟩
            case measure => simp [intOf]; omega
          have h0' : 0 ≤ h := by omega
          have hu := uses_fit l x.op x.a hfit.par
          have C := uses03 A (some ad) c d t l x.op x.a
          have hK1 := fun k => Lib.hid (insT_no (l := l) (d := D) (x := x) (pc := pc) (h := h) Hh.out h0' k)
          have hK2 := fun k1 k2 => Lib.hid (insT_go (l := l) (d := D) (x := x) (pc := pc) (h := h) Hh.out h0' k1 k2)
          have hL0 : leftOf l x h = h - (uses l x.op x.a).1 + (uses l x.op x.a).2 := rfl
          rw [hL0] at hK1 hK2
          clear hL0
          generalize (uses l x.op x.a).1 = pops at hu C hK1 hK2
          generalize (uses l x.op x.a).2 = pus at hu C hK1 hK2
          obtain ⟨v1, v2, v3, v4⟩ := hu
          have hS0 := hS
          go_wp2
          go_region_held3 (fun w' => w'.cell? ⟨w.heap.size, 0, none⟩ = some (.slice A t.length c) ∧ w'.cell? ⟨w.heap.size, 1, none⟩ = some (.slice (some ad) l.length d) ∧ w'.cell? (ad2.add (pc * 2)) = some (.int .i64 x.op) ∧ w'.cell? ⟨(ad2.add (pc * 2)).block, (ad2.add (pc * 2)).off + 1, none⟩ = some (.int .i64 x.a)) ((refine ⟨?_, ?_, ?_, ?_⟩ <;> first | exact hS0.cell 2 rfl 0 | exact hS0.cell 2 rfl 1 | exact r0 | exact r1)) (first | (go_at_call 232; refine (C _ (hr.below hS0.drew.bel) (by omega)).mono ?_; rintro e w' ⟨rfl, hb2⟩; have u0 := kept hb2 u0; have r0 := kept hb2 r0; have r1 := kept hb2 r1; have hS0 := hS0.drew.step hb2))
          clear hS
          by_cases k0 : h < pops ∨ 16 < h - pops + pus
          · have hins := hK1 k0
            have z0 := hS0.cell 1 rfl
            have zf := hS0.free 1 rfl
            have hW := hS0.bel
            clear hK1 hK2
            by_cases k1 : h < pops
            · have eR : R = (2, (k : Int), (pc : Int)) := by rw [← HT.out, ← HQ.out, if_pos (by rw [hins.out]; decide), hins.out]
              subst eR
              clear HT HQ HR
              go_wp2
              refine bodyPost_ret (v := .agg #[.int .i64 2, .int .i64 k, .int .i64 pc]) (by simp [results, Tryz.results144, go_sem, true_and, *]) rfl ⟨rfl, bl9⟩
            · have k2 : 16 < h - pops + pus := by omega
              have k1' : pops ≤ h := by omega
              have eR : R = (2, (k : Int), (pc : Int)) := by rw [← HT.out, ← HQ.out, if_pos (by rw [hins.out]; decide), hins.out]
              subst eR
              clear HT HQ HR
              go_wp2
              refine bodyPost_ret (v := .agg #[.int .i64 2, .int .i64 k, .int .i64 pc]) (by simp [results, Tryz.results144, go_sem, true_and, *]) rfl ⟨rfl, bl9⟩
          have k1' : pops ≤ h := by omega
          have k2' : h - pops + pus ≤ 16 := by omega
          have hI0 := hK2 k1' k2'
          clear hK1 hK2 k0
          obtain ⟨left, hl⟩ : ∃ left, h - pops + pus = left := ⟨_, rfl⟩
          have HLE := Lib.hid hl
          have hl0 : 0 ≤ left := by omega
          have hl1 : left ≤ 16 := by omega
          clear hl
          go_wp2_with fail
          refine (next03 x pc _ (by omega)).mono ?_
          intro e w4 hn
          obtain ⟨v2, F2, rfl, hS1⟩ := hS0.newRow hn
          obtain ⟨A3, c3, rfl, _, _⟩ := hS1.row 0 rfl
          clear hn hS0 u0 r0 r1
          have HNF := Lib.hid (nexts_fit hxf hlt2)
          have hnl : (nexts x pc).length ≤ 2 := by unfold nexts; split <;> (try split) <;> (try split) <;> simp
          obtain ⟨ns, hns⟩ : ∃ ns, nexts x pc = ns := ⟨_, rfl⟩
          rw [hns] at hS1 HNF hI0 hnl
          rw [hns]
          rw [HLE.out, hH.1] at hI0
          rw [HLE.out]
          clear hns
          go_wp2
          go_loopw [11] (fun i wr => ∃ j : Nat, j ≤ ns.length ∧ i = .int .i64 j ∧ Hid (∀ q z, ns[q]? = some z → q < j → decide (z = (y.code.length : Int)) = false) ∧ St w [Res.own (Knd.int .i64) 3 (.slice A3 ns.length c3) ns F2, Res.own (Knd.int .i64) 3 (.slice (some ⟨g, 0, none⟩) y.code.length cg) D F, Res.box (w.heap.size + 1) (.cells #[.int .i64 0, .int .i64 0, .int .i64 0] 213 (0, 0)), Res.box w.heap.size (.cells #[.slice A t.length c, .slice (some ad) l.length d] 36 (0, 0))] wr) (fun i _ => ns.length - (intOf i).toNat)
          case atStart => exact ⟨0, by omega, rfl, (fun q z _ h => by omega), hS1⟩
          case round =>
            clear hS1
            obtain ⟨j, hj, rfl, hP, hS⟩ := hrel
            by_cases hlt3 : j < ns.length
            · obtain ⟨z, hz⟩ := get_exU ns j hlt3
              obtain ⟨hz0, hz1⟩ := HNF.out z (List.mem_of_getElem? hz)
              obtain ⟨ad3, rfl, p0⟩ := hS.cellR 0 rfl j z hz
              by_cases hzn : z = (y.code.length : Int)
              · have hany := any_yes (p := fun z => decide (z = (y.code.length : Int))) hz (decide_eq_true hzn)
                have hins := Lib.hid (show insT l D x pc = 3 by rw [hI0.out, hany]; rfl)
                have z0 := hS.cell 2 rfl
                have zf := hS.free 2 rfl
                have hW := hS.bel
                have hge : (y.code.length : Int) ≤ z := by omega
                clear hany hz hzn
                have eR : R = (3, (k : Int), (pc : Int)) := by rw [← HT.out, ← HQ.out, if_pos (by rw [hins.out]; decide), hins.out]
                subst eR
                clear HT HQ HR
                go_wp2
                refine bodyPost_ret (v := .agg #[.int .i64 3, .int .i64 k, .int .i64 pc]) (by simp [results, Tryz.results144, go_sem, true_and, *]) rfl ⟨rfl, bl9⟩
              · have HN := Lib.hid (not_step (p := fun z => decide (z = (y.code.length : Int))) hP.out hz (decide_eq_false hzn))
                have hge : z < (y.code.length : Int) := by omega
                clear hz hzn
                go_wp2
                go_roundw
                case rel => exact ⟨j + 1, by omega, by go_num, HN, hS⟩
                case measure => simp [intOf]; omega
            obtain rfl : j = ns.length := by omega
            have hany := any_no (p := fun z => decide (z = (y.code.length : Int))) (fun q z h h2 => hP.out q z h h2)
            have hI1 := Lib.hid (show insT l D x pc = if ns.any (fun q => decide (at0 D q ≠ left)) then 4 else 0 by rw [hI0.out, hany]; rfl)
            have HNE : Hid (∀ z ∈ ns, z ≠ (y.code.length : Int)) := Lib.hid (fun z hz e => by
              have := List.any_eq_false.1 hany z hz
              simp [e] at this)
            clear hany hP
            go_wp2
            go_loopw [12] (fun i wr => ∃ j : Nat, j ≤ ns.length ∧ i = .int .i64 j ∧ Hid (∀ q z, ns[q]? = some z → q < j → decide (at0 D z ≠ left) = false) ∧ St w [Res.own (Knd.int .i64) 3 (.slice A3 ns.length c3) ns F2, Res.own (Knd.int .i64) 3 (.slice (some ⟨g, 0, none⟩) y.code.length cg) D F, Res.box (w.heap.size + 1) (.cells #[.int .i64 0, .int .i64 0, .int .i64 0] 213 (0, 0)), Res.box w.heap.size (.cells #[.slice A t.length c, .slice (some ad) l.length d] 36 (0, 0))] wr) (fun i _ => ns.length - (intOf i).toNat)
            case atStart => exact ⟨0, by omega, rfl, (fun q z _ h => by omega), hS⟩
            case round =>
              clear hS
              obtain ⟨j, hj, rfl, hP, hS⟩ := hrel
              by_cases hlt3 : j < ns.length
              · obtain ⟨z, hz⟩ := get_exU ns j hlt3
                obtain ⟨hz0, hz1⟩ := HNF.out z (List.mem_of_getElem? hz)
                have hz2 := HNE.out z (List.mem_of_getElem? hz)
                obtain ⟨ad3, rfl, p0⟩ := hS.cellR 0 rfl j z hz
                obtain ⟨m, rfl⟩ : ∃ m : Nat, z = m := ⟨z.toNat, by omega⟩
                have hml : m < D.length := by rw [hH.1]; omega
                have hmn : m < y.code.length := by omega
                have u1 := hS.cell1 1 rfl m _ (at0_get hml)
                by_cases hzn : at0 D m = left
                · have HN := Lib.hid (not_step (p := fun z => decide (at0 D z ≠ left)) hP.out hz (by simp [hzn]))
                  rw [hzn] at u1
                  clear hz hzn hml hz2
                  go_wp2
                  go_roundw
                  case rel => exact ⟨j + 1, by omega, by go_num, HN, hS⟩
                  case measure => simp [intOf]; omega
                · have hany := any_yes (p := fun z => decide (at0 D z ≠ left)) hz (by simp [hzn])
                  have hins := Lib.hid (show insT l D x pc = 4 by rw [hI1.out, hany]; rfl)
                  have z0 := hS.cell 2 rfl
                  have zf := hS.free 2 rfl
                  have hW := hS.bel
                  generalize at0 D m = u at u1 hzn
                  have hne : (u != left) = true := by simpa using hzn
                  clear hany hz hml hz2 hzn
                  have eR : R = (4, (k : Int), (pc : Int)) := by rw [← HT.out, ← HQ.out, if_pos (by rw [hins.out]; decide), hins.out]
                  subst eR
                  clear HT HQ HR
                  go_wp2
                  refine bodyPost_ret (v := .agg #[.int .i64 4, .int .i64 k, .int .i64 pc]) (by simp [results, Tryz.results144, go_sem, true_and, *]) rfl ⟨rfl, bl9⟩
              obtain rfl : j = ns.length := by omega
              have hany := any_no (p := fun z => decide (at0 D z ≠ left)) (fun q z h h2 => hP.out q z h h2)
              have e0 := Lib.hid (show insT l D x pc = 0 by rw [hI1.out, hany]; rfl)
              clear hany hP
              go_wp2
              go_roundw
              case rel => exact ⟨pc + 1, by omega, by go_num, Lib.hid (by have := HQ.out; rwa [e0.out, if_neg (by simp)] at this), hS.drop⟩
              case measure => simp [intOf]; omega
        · obtain rfl : pc = y.code.length := by omega
          have hQ2 : Hid (codeT l D y.code 0 = none) := Lib.hid (by have := hQ.out; rw [List.drop_length] at this; exact this.symm)
          have HT2 : Hid (funcsT l (l.drop (k + 1)) (k + 1) = R) := Lib.hid (by have := HT.out; rw [hQ2.out] at this; exact this)
          go_wp2
          go_roundw
          case rel => exact ⟨k + 1, by omega, by go_num, HT2, hS.drop⟩
          case measure => simp [intOf]; omega
    · obtain rfl : k = l.length := by omega
      have eR : (0, 0, 0) = R := by have := hT.out; rwa [List.drop_length] at this
      subst eR
      have hW := hS.bel
      clear hT HR
      go_wp2
      refine bodyPost_ret (v := .agg #[.int .i64 0, .int .i64 0, .int .i64 0]) (by simp [results, Tryz.results144, go_sem, true_and, *]) rfl ⟨rfl, bl9⟩
theorem verIx (A B : Option Addr) (c d : Nat) (t : List ByteArray) (l : List DFunc) (w : World) (ht : Knd.str.Row w A t.length t) (hr : kFunc.Row w B l.length l) (htm : t.length ≤ 1048576) (hm : l.length ≤ 1048576) (htv : ∀ x ∈ t, x.size ≤ maxLen) (hv : ∀ x ∈ l, x.code.length ≤ 1048576 ∧ -9223372036854775808 ≤ x.locals ∧ x.locals ≤ 9223372036854775807) :
    Calls Tryz.prog 148 #[.agg #[.slice A t.length c, .slice B l.length d]] w fun e w' => e = .returned (.agg #[.int .i64 (verL t l).1, .int .i64 (verL t l).2.1, .int .i64 (verL t l).2.2]) ∧ Below w.heap.size w w' := verI A B c d t l w ht hr htm hm htv hv
theorem ver03x (A B : Option Addr) (c d : Nat) (t : List ByteArray) (l : List DFunc) (w : World) (ht : Knd.str.Row w A t.length t) (hr : kFunc.Row w B l.length l) (htm : t.length ≤ 1048576) (hm : l.length ≤ 1048576) (htv : ∀ x ∈ t, x.size ≤ maxLen) (hv : ∀ x ∈ l, x.code.length ≤ 1048576 ∧ -9223372036854775808 ≤ x.locals ∧ x.locals ≤ 9223372036854775807) :
    Calls Tryz.prog 144 #[.agg #[.slice A t.length c, .slice B l.length d]] w fun e w' => e = .returned (.agg #[.int .i64 (verL t l).1, .int .i64 (verL t l).2.1, .int .i64 (verL t l).2.2]) ∧ Below w.heap.size w w' := ver03 A B c d t l w ht hr htm hm htv hv
/-- A module that is handed in, of a size that the laws let by. -/
structure HasMod (A B : Option Addr) (t : List ByteArray) (l : List DFunc) (w : World) : Prop where
  ht : Knd.str.Row w A t.length t
  hr : kFunc.Row w B l.length l
  htm : t.length ≤ 1048576
  hm : l.length ≤ 1048576
  htv : ∀ x ∈ t, x.size ≤ maxLen
  hv : ∀ x ∈ l, x.code.length ≤ 1048576 ∧ -9223372036854775808 ≤ x.locals ∧ x.locals ≤ 9223372036854775807
theorem HasMod.below {A B : Option Addr} {t : List ByteArray} {l : List DFunc} {w w' : World} (h : HasMod A B t l w) (hb : Below w.heap.size w w') : HasMod A B t l w' := ⟨h.ht.below hb, h.hr.below hb, h.htm, h.hm, h.htv, h.hv⟩
def isGoodB (t : List ByteArray) (l : List DFunc) : Bool := decide (verL t l = (0, 0, 0))
theorem codeT_fst {l : List DFunc} {d : List Int} : ∀ (c : List DIns) (pc : Nat) (r : Int × Nat), codeT l d c pc = some r → r.1 ≠ 0
  | [], _, r, h => by simp [codeT] at h
  | x :: c, pc, r, h => by
    unfold codeT at h
    split at h
    · rename_i h1
      cases h
      exact h1
    · exact codeT_fst c (pc + 1) r h
theorem funcsT_code {l : List DFunc} : ∀ (m : List DFunc) (f : Nat), (funcsT l m f).1 = 0 → funcsT l m f = (0, 0, 0)
  | [], _, _ => rfl
  | x :: m, f, h => by
    unfold funcsT at h ⊢
    split at h
    · rename_i r hr
      exact absurd h (codeT_fst _ _ _ hr)
    · rename_i hr
      exact funcsT_code m (f + 1) h
theorem verL_code {t : List ByteArray} {l : List DFunc} (h : (verL t l).1 = 0) : verL t l = (0, 0, 0) := by
  unfold verL at h ⊢
  split at h
  · rename_i h1
    rw [if_pos h1]
    exact funcsT_code l 0 h
  · simp at h
theorem isGood_mod {t : List ByteArray} {l : List DFunc} (h : isGoodB t l = true) : modB t l = true := by
  have h1 := of_decide_eq_true h
  unfold verL at h1
  split at h1
  · assumption
  · simp at h1
theorem codeT_none {l : List DFunc} {d : List Int} : ∀ (c : List DIns) (pc : Nat), codeT l d c pc = none → ∀ (j : Nat) (x : DIns), c[j]? = some x → insT l d x (pc + j) = 0
  | [], _, _, j, x, hx => by simp at hx
  | y :: c, pc, h, j, x, hx => by
    unfold codeT at h
    split at h
    · simp at h
    · rename_i h1
      cases j with
      | zero =>
        have e : y = x := by simpa using hx
        subst e
        simpa using h1
      | succ j =>
        have := codeT_none c (pc + 1) h j x (by simpa using hx)
        rwa [show pc + 1 + j = pc + (j + 1) by omega] at this
theorem funcsT_none {l : List DFunc} : ∀ (m : List DFunc) (f : Nat), funcsT l m f = (0, 0, 0) → ∀ x ∈ m, codeT l (depthsL l x.code) x.code 0 = none
  | [], _, _, x, hx => by simp at hx
  | y :: m, f, h, x, hx => by
    unfold funcsT at h
    split at h
    · rename_i r hr
      exact absurd (congrArg (·.1) h) (codeT_fst _ _ _ hr)
    · rename_i hr
      rcases List.mem_cons.1 hx with rfl | hx
      · exact hr
      · exact funcsT_none m (f + 1) h x hx
/-- What an instruction that is come to has, in a good module. -/
theorem good_ins {t : List ByteArray} {l : List DFunc} (h : isGoodB t l = true) {y : DFunc} (hy : y ∈ l) {pc : Nat} {x : DIns} (hx : y.code[pc]? = some x) (h0 : 0 ≤ at0 (depthsL l y.code) pc) :
    canB l x (at0 (depthsL l y.code) pc) = true ∧ ∀ q ∈ nexts x pc, q ≠ (y.code.length : Int) ∧ at0 (depthsL l y.code) q = leftOf l x (at0 (depthsL l y.code) pc) := by
  have hm := modFit (isGood_mod h)
  have h1 := of_decide_eq_true h
  unfold verL at h1
  rw [if_pos (isGood_mod h)] at h1
  have h2 := codeT_none _ _ (funcsT_none l 0 h1 y hy) pc x hx
  rw [Nat.zero_add] at h2
  unfold insT at h2
  rw [if_neg (by omega), (hm.hgt hy).1] at h2
  split at h2
  · simp at h2
  rename_i h3
  have h3 : canB l x (at0 (depthsL l y.code) pc) = true := by simpa using h3
  split at h2
  · simp at h2
  rename_i h4
  split at h2
  · simp at h2
  rename_i h5
  refine ⟨h3, fun q hq => ⟨fun e => ?_, ?_⟩⟩
  · exact h4 (List.any_eq_true.2 ⟨q, hq, by simp [e]⟩)
  · have h6 : ∀ z, z ∈ nexts x pc → at0 (depthsL l y.code) z = leftOf l x (at0 (depthsL l y.code) pc) := by simpa using h5
    exact h6 q hq
set_option maxHeartbeats 1000000 in
theorem isGoodI (A B : Option Addr) (c d : Nat) (t : List ByteArray) (l : List DFunc) (w : World) (h : HasMod A B t l w) {r : Bool} (hg : isGoodB t l = r) :
    Calls Tryz.prog 81 #[.agg #[.slice A t.length c, .slice B l.length d]] w fun e w' => e = .returned (.bool r) ∧ Below w.heap.size w w' := by
  have C := fun w' (hb : Below w.heap.size w w') => verIx A B c d t l w' (h.ht.below hb) (h.hr.below hb) h.htm h.hm h.htv h.hv
  cases r
  · have hg' := of_decide_eq_false hg
    generalize verL t l = v at C hg'
    obtain ⟨a, b, k⟩ := v
    simp only [Prod.mk.injEq] at hg'
    go_enter Tryz.func81, Tryz.ntmps81
    go_wp2_with fail
    refine (C _ bl9).mono ?_
    rintro e w' ⟨rfl, hb⟩
    go_wp2
    all_goals (go_ret; exact ⟨rfl, bl9⟩)
  · rw [of_decide_eq_true hg] at C
    go_enter Tryz.func81, Tryz.ntmps81
    go_wp2_with fail
    refine (C _ bl9).mono ?_
    rintro e w' ⟨rfl, hb⟩
    go_wp2
    go_ret
    exact ⟨rfl, bl9⟩
/-- A field of a struct that lies in no memory. -/
theorem wp_fieldv {P : Program} {ops : Array Oper} {rest : List Oper} {o : Oper} {a : Act} {Q : Exit → Act → World → Prop} {W : World} (hgd : o.guard = none) (t : TypeId) (x : Operand) (k : Nat) (ho : o.op = .field t x k) (v u : Value) (hx : a.eval x = v) (hr : ∀ W, (Instr.field t v k).run P W = .ok u W)
    (h : wpList P ops Q rest (a.put o.dst u) W) : wpList P ops Q (o :: rest) a W := by
  have hrun : (execOp a.eval o).run P W = .ok (.value u) W := by simp [execOp, ho, hx, hr]
  refine wpList_plain hgd fun K hK => ?_
  unfold Oper.wp
  rw [hrun]
  exact hK _ _ h
theorem fieldTrouble0 (a b c : Int) (W : World) : (Instr.field 213 (.agg #[.int .i64 a, .int .i64 b, .int .i64 c]) 0).run Tryz.prog W = .ok (.int .i64 a) W := by kernel_rfl
set_option maxHeartbeats 1000000 in
set_option maxRecDepth 100000 in
theorem good03 (A B : Option Addr) (c d : Nat) (t : List ByteArray) (l : List DFunc) (w : World) (h : HasMod A B t l w) {r : Bool} (hg : isGoodB t l = r) :
    Calls Tryz.prog 77 #[.agg #[.slice A t.length c, .slice B l.length d]] w fun e w' => e = .returned (.bool r) ∧ Below w.heap.size w w' := by
  have C := fun w' (hb : Below w.heap.size w w') => ver03x A B c d t l w' (h.ht.below hb) (h.hr.below hb) h.htm h.hm h.htv h.hv
  have hc := verL_code (t := t) (l := l)
  cases r
  · have hg' := of_decide_eq_false hg
    have hne : (verL t l).1 ≠ 0 := fun e => hg' (hc e)
    clear hc hg'
    generalize verL t l = v at C hne
    obtain ⟨a, b, k⟩ := v
    have hne' : (a == 0) = false := by simpa using hne
    go_enter Tryz.func77, Tryz.ntmps77
    go_wp2_with fail
    refine (C _ bl9).mono ?_
    rintro e w' ⟨rfl, hb⟩
    go_wp2_with (refine wp_fieldv rfl _ _ _ rfl _ _ rfl (fieldTrouble0 _ _ _) ?_)
    go_ret
    exact ⟨rfl, bl9⟩
  · clear hc
    rw [of_decide_eq_true hg] at C
    go_enter Tryz.func77, Tryz.ntmps77
    go_wp2_with fail
    refine (C _ bl9).mono ?_
    rintro e w' ⟨rfl, hb⟩
    go_wp2_with (refine wp_fieldv rfl _ _ _ rfl _ _ rfl (fieldTrouble0 _ _ _) ?_)
    go_ret
    exact ⟨rfl, bl9⟩
def headS (m : List Bool) (x : DIns) (pc : Nat) (h : Int) : List Bool := if 0 ≤ h ∧ isJmp x.op = true ∧ x.a ≤ pc then m.set x.a.toNat true else m
def headM (d : List Int) : List DIns → Nat → List Bool → List Bool
  | [], _, m => m
  | x :: c, pc, m => headM d c (pc + 1) (headS m x pc (at0 d pc))
/-- The places that are marked. -/
def markF : List Bool → Nat → List Int
  | [], _ => []
  | b :: bs, i => if b then (i : Int) :: markF bs (i + 1) else markF bs (i + 1)
def headsL (l : List DFunc) (c : List DIns) : List Int := markF (headM (depthsL l c) c 0 (List.replicate c.length false)) 0
theorem headS_len (m : List Bool) (x : DIns) (pc : Nat) (h : Int) : (headS m x pc h).length = m.length := by
  unfold headS
  split <;> simp
theorem headM_len (d : List Int) : ∀ (c : List DIns) (pc : Nat) (m : List Bool), (headM d c pc m).length = m.length
  | [], _, _ => rfl
  | x :: c, pc, m => by rw [headM, headM_len d c, headS_len]
theorem set_true {m : List Bool} {i k : Nat} (hi : i < m.length) : (m.set k true)[i]? = some true ↔ m[i]? = some true ∨ k = i := by
  rw [List.getElem?_set]
  split
  · rename_i h
    subst h
    simp [hi]
  · rename_i h
    simp [h]
theorem headS_iff {m : List Bool} {x : DIns} {pc : Nat} {h : Int} {i : Nat} (hi : i < m.length) : (headS m x pc h)[i]? = some true ↔ m[i]? = some true ∨ (0 ≤ h ∧ isJmp x.op = true ∧ x.a ≤ pc ∧ x.a.toNat = i) := by
  unfold headS
  split
  · rename_i h1
    rw [set_true hi]
    simp [h1.1, h1.2.1, h1.2.2]
  · rename_i h1
    constructor
    · exact .inl
    · rintro (h2 | ⟨h2, h3, h4, _⟩)
      · exact h2
      · exact absurd ⟨h2, h3, h4⟩ h1
theorem headM_iff {d : List Int} {i : Nat} : ∀ (c : List DIns) (pc : Nat) (m : List Bool), i < m.length → ((headM d c pc m)[i]? = some true ↔ m[i]? = some true ∨ ∃ (j : Nat) (x : DIns), c[j]? = some x ∧ 0 ≤ at0 d ((pc + j : Nat) : Int) ∧ isJmp x.op = true ∧ x.a ≤ ((pc + j : Nat) : Int) ∧ x.a.toNat = i)
  | [], pc, m, _ => by simp [headM]
  | y :: c, pc, m, hi => by
    rw [headM, headM_iff c (pc + 1) _ (by rw [headS_len]; exact hi), headS_iff hi]
    constructor
    · rintro ((h | ⟨h1, h2, h3, h4⟩) | ⟨j, x, h1, h2, h3, h4, h5⟩)
      · exact .inl h
      · exact .inr ⟨0, y, rfl, by simpa using h1, h2, by simpa using h3, h4⟩
      · refine .inr ⟨j + 1, x, by simpa using h1, ?_, h3, ?_, h5⟩
        · rwa [show pc + (j + 1) = pc + 1 + j by omega]
        · rwa [show pc + (j + 1) = pc + 1 + j by omega]
    · rintro (h | ⟨j, x, h1, h2, h3, h4, h5⟩)
      · exact .inl (.inl h)
      · cases j with
        | zero =>
          have e : y = x := by simpa using h1
          subst e
          exact .inl (.inr ⟨by simpa using h2, h3, by simpa using h4, h5⟩)
        | succ j =>
          refine .inr ⟨j, x, by simpa using h1, ?_, h3, ?_, h5⟩
          · rwa [show pc + 1 + j = pc + (j + 1) by omega]
          · rwa [show pc + 1 + j = pc + (j + 1) by omega]
theorem mem_markF {z : Int} : ∀ (m : List Bool) (i : Nat), z ∈ markF m i ↔ ∃ k : Nat, m[k]? = some true ∧ z = ((i + k : Nat) : Int)
  | [], i => by simp [markF]
  | b :: m, i => by
    have ih := mem_markF (z := z) m (i + 1)
    cases b
    · simp only [markF, Bool.false_eq_true, if_false, ih]
      constructor
      · rintro ⟨k, h1, h2⟩
        exact ⟨k + 1, by simpa using h1, by rw [h2]; omega⟩
      · rintro ⟨k, h1, h2⟩
        cases k with
        | zero => simp at h1
        | succ k => exact ⟨k, by simpa using h1, by rw [h2]; omega⟩
    · simp only [markF, if_true, List.mem_cons, ih]
      constructor
      · rintro (h | ⟨k, h1, h2⟩)
        · exact ⟨0, rfl, by simpa using h⟩
        · exact ⟨k + 1, by simpa using h1, by rw [h2]; omega⟩
      · rintro ⟨k, h1, h2⟩
        cases k with
        | zero => exact .inl (by simpa using h2)
        | succ k => exact .inr ⟨k, by simpa using h1, by rw [h2]; omega⟩
theorem infoBool : (Tryz.prog.info? 4).map (fun i => (i.zero, i.size, i.bytes)) = some (some (.bool false), 1, 1) := by kernel_rfl
theorem markF_at {m : List Bool} {k : Nat} {b : Bool} (hk : m[k]? = some b) : markF (m.take (k + 1)) 0 = markF (m.take k) 0 ++ (if b then [(k : Int)] else []) := by
  have gen : ∀ (m : List Bool) (k i : Nat) (b : Bool), m[k]? = some b → markF (m.take (k + 1)) i = markF (m.take k) i ++ (if b then [((i + k : Nat) : Int)] else []) := by
    intro m
    induction m with
    | nil => intro k i b h; simp at h
    | cons c m ih =>
      intro k i b h
      cases k with
      | zero =>
        have e : c = b := by simpa using h
        subst e
        cases c <;> simp [markF]
      | succ k =>
        have := ih k (i + 1) b (by simpa using h)
        rw [show i + 1 + k = i + (k + 1) by omega] at this
        cases c <;> simp [markF, this]
  simpa using gen m k 0 b hk
set_option maxHeartbeats 1000000 in
set_option maxRecDepth 100000 in
theorem mark03 (A : Option Addr) (c : Nat) (m : List Bool) (w : World) (hr : Knd.bool.Row w A m.length m) (hm : m.length ≤ 1048576) :
    Calls Tryz.prog 335 #[.slice A m.length c] w (NewRow (Knd.int .i64) 3 (markF m 0) w) := by
  have hS0 := (St.start w).litAt (enc := Value.int .i64) (h1 := fun _ => rfl) (e := 3) [] #[] rfl w.heap.size rfl 0 rfl (by simp)
  go_enter Tryz.func335, Tryz.ntmps335
  go_wp2
  go_loopw [3, 4] (fun v i wr => ∃ (k : Nat) (F : List Nat), k ≤ m.length ∧ i = .int .i64 k ∧ St w [Res.own (Knd.int .i64) 3 v (markF (m.take k) 0) F] wr ∧ (markF (m.take k) 0).length ≤ k) (fun _ i _ => m.length - (intOf i).toNat)
  case atStart => exact ⟨0, _, by omega, rfl, hS0, by simp [markF]⟩
  case round =>
    clear hS0
    obtain ⟨k, F, hk, rfl, hS, hl⟩ := hrel
    by_cases hlt : k < m.length
    · obtain ⟨b, hb⟩ := get_exU m k hlt
      obtain ⟨ad, rfl, q0⟩ := (hr.below hS.bel).one k b hb
      have HM := Lib.hid (markF_at hb)
      clear hb
      cases b
      · go_wp2
        go_roundw
        case rel => exact ⟨k + 1, F, by omega, by go_num, by rw [HM.out]; simpa using hS, by rw [HM.out]; simp; omega⟩
        case measure => simp [intOf]; omega
      · have hl2 : (markF (m.take k) 0).length ≤ 1048576 := by omega
        generalize hP : markF (m.take k) 0 = P at hS hl hl2 HM
        have HP := Lib.hid hP
        clear hP
        go_wp2_with (at_builtin; refine Knd.wp_app1 rfl _ _ _ rfl 3 Tryz.underlying81 (.int .i64 0) 8 infoInt rfl rfl ((hS.al _).own_ 0 rfl) _ _ _ _ _ (blkAt _ _ (by simp)) rfl (by (try simp [maxLen]); (try omega)) (by (try simp); (try omega)) ?_; rintro gq cq wq hO hB hg; have hSq := (hS.al _).app1 0 rfl hO hB hg; clear hO hB hg hS; have hS := hSq; clear hSq)
        go_roundw
        case rel => exact ⟨k + 1, _, by omega, by go_num, by rw [HM.out]; exact hS, by rw [HM.out]; simp; omega⟩
        case measure => simp [intOf]; omega
    · obtain rfl : k = m.length := by omega
      rw [List.take_length] at hS
      go_wp2
      go_ret
      exact hS.outRow 0 rfl
set_option maxHeartbeats 4000000 in
set_option maxRecDepth 100000 in
theorem heads03 (A B : Option Addr) (c d : Nat) (t : List ByteArray) (l : List DFunc) (f : Nat) (y : DFunc) (w : World) (hr : kFunc.Row w B l.length l) (hgd : isGoodB t l = true) (hy : l[f]? = some y) :
    Calls Tryz.prog 274 #[.agg #[.slice A t.length c, .slice B l.length d], .int .i64 f] w (NewRow (Knd.int .i64) 3 (headsL l y.code) w) := by
  have hfit := modFit (isGood_mod hgd)
  have hm := hfit.n12
  have hym := List.mem_of_getElem? hy
  have n1 := hfit.c1 y hym
  have n120 := hfit.c120 y hym
  have hH := hfit.hgt hym
  obtain ⟨ad, A2, c2, rfl, _, _, q2', hq, hr2⟩ := kFunc_at hr f y hy
  have q2 := kept (bl_alloc (Below.refl _ _) (.cells #[.slice A t.length c, .slice (some ad) l.length d] 36 (0, 0))) q2'
  have hfl : f < l.length := (List.getElem?_eq_some_iff.1 hy).1
  have HY := Lib.hid hy
  clear hy q2'
  have hS0 := (St.start w).made (.cells #[.slice A t.length c, .slice (some ad) l.length d] 36 (0, 0))
  go_enter Tryz.func274, Tryz.ntmps274
  go_wp2_with fail
  refine (depths03 A (some ad) c d t l f y _ (hr.below hS0.bel) hfit HY.out).mono ?_
  intro e w2 hn
  obtain ⟨v, F, rfl, hS1⟩ := hS0.newRow hn
  obtain ⟨g, cg, hv', hgF⟩ := own_form (hS1.get 0 rfl) (by rw [hH.1]; omega)
  rw [hH.1] at hv'
  subst hv'
  clear hn hS0 q2
  go_wp2_with (refine Knd.wp_made Knd.bool rfl _ _ _ rfl y.code.length rfl rfl 4 Tryz.underlying392 (.bool false) 1 infoBool rfl (by decide) (by omega) false (fun _ => ⟨rfl, rfl⟩) (by omega) ?_; rintro gm w3 hg ho hb hz; have hSm := hS1.madeRow ho hg hb; clear hg ho hb hz hS1)
  have hSk := Lib.hid hSm
  clear hSm
  go_wp2
  obtain ⟨Q, hQ⟩ : ∃ Q, headM (depthsL l y.code) y.code 0 ((List.replicate y.code.length false)) = Q := ⟨_, rfl⟩
  have HQ0 := Lib.hid hQ
  have eQ : headsL l y.code = markF Q 0 := by rw [← hQ]; rfl
  have HEQ := Lib.hid eQ
  clear hQ eQ
  go_loopw [8] (fun i wr => ∃ (pc : Nat) (m : List Bool), pc ≤ y.code.length ∧ i = .int .i64 pc ∧ Hid (headM (depthsL l y.code) (y.code.drop pc) pc m = Q) ∧ m.length = y.code.length ∧ St w [Res.own Knd.bool 4 (.slice (some ⟨gm, 0, none⟩) y.code.length y.code.length) m [gm], Res.own (Knd.int .i64) 3 (.slice (some ⟨g, 0, none⟩) y.code.length cg) (depthsL l y.code) F, Res.box w.heap.size (.cells #[.slice A t.length c, .slice (some ad) l.length d] 36 (0, 0))] wr) (fun i _ => y.code.length - (intOf i).toNat)
  case atStart => exact ⟨0, _, by omega, rfl, HQ0, by simp, hSk.out⟩
  case round =>
    clear hSk
    obtain ⟨pc, m, hpc, rfl, hQ, hml, hS⟩ := hrel
    by_cases hlt : pc < y.code.length
    · obtain ⟨x, hx⟩ := get_exU y.code pc hlt
      have HQ : Hid (headM (depthsL l y.code) (y.code.drop (pc + 1)) (pc + 1) (headS m x pc (at0 (depthsL l y.code) pc)) = Q) := Lib.hid (by
        obtain ⟨hk, e⟩ := List.getElem?_eq_some_iff.1 hx
        have := hQ.out
        rw [List.drop_eq_getElem_cons hk, e] at this
        exact this)
      have hxf := hfit.fit hym (List.mem_of_getElem? hx)
      obtain ⟨ad2, rfl, r0, r1⟩ := kIns_at (hr2.below hS.bel) pc x hx
      have hlen : pc < (depthsL l y.code).length := by rw [hH.1]; exact hlt
      have u0 := hS.cell1 1 rfl pc _ (at0_get hlen)
      have HX := Lib.hid hx
      obtain ⟨h, hh⟩ : ∃ h, at0 (depthsL l y.code) pc = h := ⟨_, rfl⟩
      rw [hh] at u0 HQ
      have Hh := Lib.hid hh
      clear hx hQ hlen hh
      have HML := Lib.hid hml
      all_goals skip
      by_cases hsk : 0 ≤ h ∧ isJmp x.op = true ∧ x.a ≤ pc
      · obtain ⟨h0, hj, hle⟩ := hsk
        have e1 : headS m x pc h = m.set x.a.toNat true := by unfold headS; rw [if_pos ⟨h0, hj, hle⟩]
        obtain ⟨ha0, ha1⟩ := hxf.jmp hj
        obtain ⟨a, ha⟩ : ∃ a : Nat, x.a = a := ⟨x.a.toNat, by omega⟩
        rw [ha] at r1 hle
        rw [ha, Int.toNat_natCast] at e1
        have E1 := Lib.hid e1
        have ham : a < m.length := by rw [hml]; omega
        obtain ⟨b1, k1⟩ : ∃ b1, m[a]? = some b1 := ⟨m[a], List.getElem?_eq_getElem ham⟩
        have v1 := hS.cell1 0 rfl a b1 k1
        have v0 := hS.free1 0 rfl a
        have han : a < y.code.length := by omega
        have HS2 := Lib.hid (hS.put1 0 rfl a ham true)
        rw [isJmp, btw_true] at hj
        have hcase : x.op = 17 ∨ x.op = 18 ∨ x.op = 19 := by omega
        have hle' : (a : Int) ≤ (pc : Int) := hle
        clear e1 hj ha k1 ham
        rcases hcase with e | e | e
        all_goals
          rw [e] at r0
          clear e
          go_wp2
          go_roundw
          case rel => exact ⟨pc + 1, m.set a true, by omega, by go_num, Lib.hid (by have := HQ.out; rwa [E1.out] at this), by rw [List.length_set]; exact hml, HS2.out⟩
          case measure => simp [intOf]; omega
      have E1 := Lib.hid (show headS m x pc h = m by unfold headS; rw [if_neg hsk])
      by_cases h0 : h < 0
      · clear hsk
        go_wp2
        go_roundw
        case rel => exact ⟨pc + 1, m, by omega, by go_num, Lib.hid (by have := HQ.out; rwa [E1.out] at this), hml, hS⟩
        case measure => simp [intOf]; omega
      have h0' : 0 ≤ h := by omega
      cases hj : isJmp x.op
      · rw [isJmp, btw_false] at hj
        have e17 : (x.op == 17) = false := by simp; omega
        have e18 : (x.op == 18) = false := by simp; omega
        have e19 : (x.op == 19) = false := by simp; omega
        clear hsk hj
        go_wp2
        go_roundw
        case rel => exact ⟨pc + 1, m, by omega, by go_num, Lib.hid (by have := HQ.out; rwa [E1.out] at this), hml, hS⟩
        case measure => simp [intOf]; omega
      · have hgt : (pc : Int) < x.a := by
          refine Classical.byContradiction fun hn => hsk ⟨h0', hj, by omega⟩
        rw [isJmp, btw_true] at hj
        have hcase : x.op = 17 ∨ x.op = 18 ∨ x.op = 19 := by omega
        clear hsk hj
        rcases hcase with e | e | e
        all_goals
          rw [e] at r0
          clear e
          go_wp2
          go_roundw
          case rel => exact ⟨pc + 1, m, by omega, by go_num, Lib.hid (by have := HQ.out; rwa [E1.out] at this), hml, hS⟩
          case measure => simp [intOf]; omega
    · obtain rfl : pc = y.code.length := by omega
      have hQ2 : Hid (m = Q) := Lib.hid (by have := hQ.out; rwa [List.drop_length] at this)
      obtain ⟨A5, c5, hv5, _, hrow⟩ := hS.row 0 rfl
      have C := mark03 A5 c5 m wr hrow (by omega)
      rw [← hv5, hQ2.out] at C
      clear hQ hv5 hrow
      go_wp2_with fail
      refine C.mono ?_
      intro e w5 hn
      obtain ⟨v, F5, rfl, hS5⟩ := hS.newRow hn
      go_wp2
      go_ret
      rw [HEQ.out]
      exact hS5.outRow 0 rfl
theorem isJumpI (op a : Int) (w : World) {r : Bool} (h : isJmp op = r) : Calls Tryz.prog 341 #[.agg #[.int .i64 op, .int .i64 a]] w fun e w' => e = .returned (.bool r) ∧ Below w.heap.size w w' := by
  have H := Lib.hid h
  clear h
  go_enter Tryz.func341, Tryz.ntmps341
  go_wp2_with fail
  refine (inRange _ H.out).mono ?_
  rintro e w' ⟨rfl, rfl⟩
  go_wp2
  go_ret
  exact ⟨rfl, bl9⟩
end Go.Proofs.YthinhlcfpaaldaaGreat.Dat

/- An element of a row of the call's own: read with what it owns, one of its cells written, or its inner rows turned. -/
namespace Go.Proofs.YthinhlcfpaaldaaGreat.Mem
open Go Go.RowKit
set_option linter.unusedVariables false
set_option linter.unusedSimpArgs false
namespace Knd
variable {α : Type} {d : Knd α} {e : Nat} {w : World} {xs : List α} {Fs : List (List Nat)} {g n c : Nat}
/-- A row that stands at a block: its cells by name. -/
structure At (d : Knd α) (e : Nat) (w : World) (g n c : Nat) (xs : List α) (Fs : List (List Nat)) (inner : List Value) : Prop where
  row : w.ownsRow 0 e d.sz (.slice (some ⟨g, 0, none⟩) n c) xs.length inner
  els : Els d w xs inner Fs
  nd : (g :: Fs.flatten).Nodup
theorem OwnF.toAt (h : OwnF d e w (.slice (some ⟨g, 0, none⟩) n c) xs Fs) (hnd : (g :: Fs.flatten).Nodup) : ∃ inner, At d e w g n c xs Fs inner := by
  obtain ⟨inner, ho, hr⟩ := h
  exact ⟨inner, ho, hr, hnd⟩
namespace At
variable {inner : List Value}
theorem ownF (h : At d e w g n c xs Fs inner) : OwnF d e w (.slice (some ⟨g, 0, none⟩) n c) xs Fs := ⟨inner, h.row, h.els⟩
theorem num (h : At d e w g n c xs Fs inner) : n = xs.length := by
  rcases h.row.2 with ⟨h1, _⟩ | ⟨g', cap', cur, h1, _⟩
  · cases h1
  · injection h1
theorem cell (h : At d e w g n c xs Fs inner) (k : Nat) (hk : k < xs.length * d.sz) : w.cell? ⟨g, k, none⟩ = inner[k]? := by
  have hn := h.num
  subst hn
  exact World.ownsRow.cellAt h.row k hk
theorem free (h : At d e w g n c xs Fs inner) (k : Nat) : w.frozen? ⟨g, k, none⟩ = false := by
  have hn := h.num
  subst hn
  exact World.ownsRow.frozenAt h.row k
/-- The cells of one element. -/
def seg (d : Knd α) (inner : List Value) (j : Nat) : List Value := (inner.drop (j * d.sz)).take d.sz
theorem elem (h : At d e w g n c xs Fs inner) (j : Nat) (x : α) (hx : xs[j]? = some x) : ∃ Fj, Fs[j]? = some Fj ∧ d.O w x (seg d inner j) Fj ∧ (∀ i u, (seg d inner j)[i]? = some u → w.cell? ⟨g, j * d.sz + i, none⟩ = some u) := by
  have hj : j < xs.length := (List.getElem?_eq_some_iff.1 hx).1
  have hl : j < Fs.length := by rw [h.els.2.1]; exact hj
  have hO := h.els.2.2 j x _ hx (List.getElem?_eq_getElem hl)
  refine ⟨Fs[j], List.getElem?_eq_getElem hl, hO, fun i u hu => ?_⟩
  have hi : i < d.sz := by
    have := (List.getElem?_eq_some_iff.1 hu).1
    unfold seg at this
    rw [List.length_take] at this
    omega
  have hle : (j + 1) * d.sz ≤ xs.length * d.sz := Nat.mul_le_mul_right _ hj
  rw [Nat.succ_mul] at hle
  rw [h.cell _ (by omega)]
  unfold seg at hu
  rwa [List.getElem?_take_of_lt hi, List.getElem?_drop] at hu
theorem seg_set_same (inner : List Value) (j i : Nat) (u : Value) (hi : i < d.sz) : seg d (inner.set (j * d.sz + i) u) j = (seg d inner j).set i u := by
  unfold seg
  rw [List.drop_set, if_neg (by omega), List.take_set]
  congr 1
  omega
theorem seg_set_far (inner : List Value) (j k i : Nat) (u : Value) (hi : i < d.sz) (hjk : j ≠ k) : seg d (inner.set (k * d.sz + i) u) j = seg d inner j := by
  unfold seg
  apply List.ext_getElem?
  intro q
  rcases Nat.lt_or_ge q d.sz with hq | hq
  · rw [List.getElem?_take_of_lt hq, List.getElem?_drop, List.getElem?_take_of_lt hq, List.getElem?_drop, List.getElem?_set_ne]
    rcases Nat.lt_or_gt_of_ne hjk with hlt | hlt
    · have := Nat.mul_le_mul_right d.sz (show j + 1 ≤ k from hlt)
      rw [Nat.succ_mul] at this
      omega
    · have := Nat.mul_le_mul_right d.sz (show k + 1 ≤ j from hlt)
      rw [Nat.succ_mul] at this
      omega
  · rw [List.getElem?_eq_none (by rw [List.length_take]; omega), List.getElem?_eq_none (by rw [List.length_take]; omega)]
theorem gne (h : At d e w g n c xs Fs inner) : ∀ q ∈ Fs.flatten, q ≠ g := fun q hq he => (List.nodup_cons.1 h.nd).1 (he ▸ hq)
/-- One cell of one element written. -/
theorem put (h : At d e w g n c xs Fs inner) (j i : Nat) (hj : j < xs.length) (hi : i < d.sz) (u : Value) (x : α) (Fj : List Nat) (hF : Fs[j]? = some Fj) (hO : d.O w x ((seg d inner j).set i u) Fj) : At d e (w.setCell ⟨g, j * d.sz + i, none⟩ u) g n c (xs.set j x) Fs (inner.set (j * d.sz + i) u) := by
  have hn := h.num
  subst hn
  refine ⟨?_, ⟨?_, ?_, fun k p Fk hp hFk => ?_⟩, h.nd⟩
  · have := (World.ownsRow.stored h.row (j * d.sz + i) u).1
    rw [List.length_set]
    exact this
  · rw [List.length_set, List.length_set]
    exact h.els.1
  · rw [List.length_set]
    exact h.els.2.1
  · have hfar : ∀ q ∈ Fk, (w.setCell ⟨g, j * d.sz + i, none⟩ u).heap[q]? = w.heap[q]? := fun q hq => Below.heap_setCell w _ u q (h.gne q (List.mem_flatten.2 ⟨Fk, List.mem_of_getElem? hFk, hq⟩))
    show d.O _ p (seg d _ k) Fk
    by_cases hk : k = j
    · subst hk
      rw [List.getElem?_set_self hj] at hp
      cases hp
      rw [hF] at hFk
      cases hFk
      rw [seg_set_same _ _ _ _ hi]
      exact d.O_frame hfar hO
    · rw [List.getElem?_set_ne (Ne.symm hk)] at hp
      rw [seg_set_far _ _ _ _ _ hi hk]
      exact d.O_frame hfar (h.els.2.2 k p Fk hp hFk)
/-- What one element owns, turned. -/
theorem turn {w' : World} (h : At d e w g n c xs Fs inner) (j : Nat) (hj : j < xs.length) (x : α) (Fj G : List Nat) (hF : Fs[j]? = some Fj) (hG : ∀ q ∈ G, q ∈ Fj) (hB : But G w w') (hO : d.O w' x (seg d inner j) Fj) : At d e w' g n c (xs.set j x) Fs inner := by
  have hgn : g ∉ G := fun hm => h.gne g (List.mem_flatten.2 ⟨Fj, List.mem_of_getElem? hF, hG g hm⟩) rfl
  have hlt := h.ownF.lt
  have hg : w'.heap[g]? = w.heap[g]? := hB.block g (hlt g (by simp [Value.ownBlock])) hgn
  refine ⟨?_, ⟨?_, ?_, fun k p Fk hp hFk => ?_⟩, h.nd⟩
  · rw [List.length_set]
    obtain ⟨h1, h2⟩ := h.row
    refine ⟨h1, ?_⟩
    rcases h2 with h2 | ⟨g', cap, cur, hv, h3, hh, r⟩
    · exact .inl h2
    · cases hv
      exact .inr ⟨g, _, cur, rfl, h3, hg.trans hh, r⟩
  · rw [List.length_set]
    exact h.els.1
  · rw [List.length_set]
    exact h.els.2.1
  · by_cases hk : k = j
    · subst hk
      rw [List.getElem?_set_self hj] at hp
      cases hp
      rw [hF] at hFk
      cases hFk
      exact hO
    · rw [List.getElem?_set_ne (Ne.symm hk)] at hp
      refine d.O_frame (fun q hq => hB.block q ?_ (fun hm => ?_)) (h.els.2.2 k p Fk hp hFk)
      · exact hlt q (List.mem_append_right _ (List.mem_flatten.2 ⟨Fk, List.mem_of_getElem? hFk, hq⟩))
      · have h1 := (List.nodup_cons.1 h.nd).2
        have h2 := (List.pairwise_flatten.1 h1).2
        obtain ⟨a1, a2⟩ := List.getElem?_eq_some_iff.1 hFk
        obtain ⟨b1, b2⟩ := List.getElem?_eq_some_iff.1 hF
        have hqj := hG q hm
        rcases Nat.lt_or_gt_of_ne hk with hlt2 | hlt2
        · exact List.pairwise_iff_getElem.1 h2 k j a1 b1 hlt2 q (by rw [a2]; exact hq) q (by rw [b2]; exact hqj) rfl
        · exact List.pairwise_iff_getElem.1 h2 j k b1 a1 hlt2 q (by rw [b2]; exact hqj) q (by rw [a2]; exact hq) rfl
theorem below {w' : World} (h : At d e w g n c xs Fs inner) (hb : Below w.heap.size w w') : At d e w' g n c xs Fs inner := by
  have hlt := h.ownF.lt
  refine ⟨?_, h.els.frame (fun q hq => hb.block q (hlt q (List.mem_append_right _ hq))), h.nd⟩
  obtain ⟨h1, h2⟩ := h.row
  refine ⟨h1, ?_⟩
  rcases h2 with h2 | ⟨g', cap, cur, hv, h3, hh, r⟩
  · exact .inl h2
  · cases hv
    exact .inr ⟨g, _, cur, rfl, h3, (hb.block g (hlt g (by simp [Value.ownBlock]))).trans hh, r⟩
theorem but_put {w0 : World} (hB : But (g :: Fs.flatten) w0 w) (k : Nat) (u : Value) : But (g :: Fs.flatten) w0 (w.setCell ⟨g, k, none⟩ u) := hB.set (by simp) k u
theorem but_turn {w0 w' : World} (hB : But (g :: Fs.flatten) w0 w) {j : Nat} {Fj G : List Nat} (hF : Fs[j]? = some Fj) (hG : ∀ q ∈ G, q ∈ Fj) (hB2 : But G w w') : But (g :: Fs.flatten) w0 w' := hB.then hB2 (fun q hq => .inl (List.mem_cons_of_mem _ (List.mem_flatten.2 ⟨Fj, List.mem_of_getElem? hF, hG q hq⟩)))
end At
theorem Own.toAt {v : Value} {F : List Nat} (h : Own d e w v xs F) (hnd : F.Nodup) (hn : 0 < xs.length) : ∃ g c Fs inner, v = .slice (some ⟨g, 0, none⟩) xs.length c ∧ F = g :: Fs.flatten ∧ At d e w g xs.length c xs Fs inner := by
  obtain ⟨Fs, hF, rfl⟩ := h.fs
  obtain ⟨g, c, rfl⟩ := hF.form hn
  have e1 : (Value.slice (some (⟨g, 0, none⟩ : Addr)) xs.length c).ownBlock.toList ++ Fs.flatten = g :: Fs.flatten := rfl
  rw [e1] at hnd
  obtain ⟨inner, hA⟩ := hF.toAt hnd
  exact ⟨g, c, Fs, inner, rfl, e1, hA⟩
theorem At.own {inner : List Value} (h : At d e w g n c xs Fs inner) : Own d e w (.slice (some ⟨g, 0, none⟩) n c) xs (g :: Fs.flatten) := h.ownF.own
end Knd
end Go.Proofs.YthinhlcfpaaldaaGreat.Mem

/- The laws' own texts of marks. -/
namespace Go.Proofs.YthinhlcfpaaldaaGreat.Dat
open Go Go.RowKit Go.Proofs.YthinhlcfpaaldaaGreat.Mem
set_option linter.unusedVariables false
set_option linter.unusedSimpArgs false
def digs (k : Nat) (out : ByteArray) : ByteArray := if h : k = 0 then out else digs (k / 10) ((⟨#[48 + UInt8.ofNat (k % 10)]⟩ : ByteArray) ++ out)
decreasing_by omega
def mkText (k : Int) : ByteArray := if k ≤ 0 then (⟨#[109, 48]⟩ : ByteArray) else (⟨#[109]⟩ : ByteArray) ++ digs k.toNat ⟨#[]⟩
theorem digs_0 (out : ByteArray) : digs 0 out = out := by rw [digs]; simp
theorem digs_s {k : Nat} (h : 0 < k) (out : ByteArray) : digs k out = digs (k / 10) ((⟨#[48 + UInt8.ofNat (k % 10)]⟩ : ByteArray) ++ out) := by rw [digs, dif_neg (by omega)]
theorem wp_byteStr {P : Program} {ops : Array Oper} {rest : List Oper} {o : Oper} {a : Act} {Q : Exit → Act → World → Prop} {W : World} (hgd : o.guard = none) (src dst : TypeId) (x : Operand) (ho : o.op = .convert src dst x) (e : TypeId) (hs : P.underlying src = some (.slice e)) (he : P.underlying e = some (.int .u8)) (hd : P.underlying dst = some .string)
    (B c : Nat) (n : Int) (hx : a.eval x = .slice (some ⟨B, 0, none⟩) 1 c) (hc : W.cell? ⟨B, 0, none⟩ = some (.int .u8 n))
    (h : wpList P ops Q rest (a.put o.dst (.string (⟨#[UInt8.ofNat n.toNat]⟩ : ByteArray))) W) : wpList P ops Q (o :: rest) a W := by
  have hl : (loadCells ⟨B, 0, none⟩ 1).run P W = .ok ([n].map (Value.int .u8)).toArray W := by
    have := run_loadCells_list (P := P) W ⟨B, 0, none⟩ [.int .u8 n] (fun j v hj => by
      have := one_src hc j v hj
      have e2 : (⟨B, 0, none⟩ : Addr).add j = ⟨B, j, none⟩ := by unfold Addr.add; split <;> simp_all
      rw [e2]
      exact this)
    simpa using this
  have hr : (convert src dst (.slice (some ⟨B, 0, none⟩) 1 c)).run P W = .ok (.string (⟨#[UInt8.ofNat n.toNat]⟩ : ByteArray)) W := by
    rw [run_convert_bytes_string W src dst e _ 1 c hs he hd, run_bytesToString W _ 1 c [n] hl]
    rfl
  have hrun : (execOp a.eval o).run P W = .ok (.value (.string (⟨#[UInt8.ofNat n.toNat]⟩ : ByteArray))) W := by simp [execOp, ho, hx, hr]
  refine wpList_plain hgd fun K hK => ?_
  unfold Oper.wp
  rw [hrun]
  exact hK _ _ h
set_option maxHeartbeats 1000000 in
set_option maxRecDepth 100000 in
theorem markText (k : Int) (w : World) (h1 : k ≤ 4611686018427387904) (h0 : 0 ≤ k) : Calls Tryz.prog 140 #[.int .i64 k] w fun e w' => e = .returned (.string (mkText k)) ∧ Below w.heap.size w w' := by
  by_cases hk : k ≤ 0
  · have e : mkText k = (⟨#[109, 48]⟩ : ByteArray) := by unfold mkText; rw [if_pos hk]
    rw [e]
    clear e
    go_enter Tryz.func140, Tryz.ntmps140
    go_wp2
    go_ret
    exact ⟨rfl, bl9⟩
  obtain ⟨R, hR⟩ : ∃ R, digs k.toNat ⟨#[]⟩ = R := ⟨_, rfl⟩
  have e : mkText k = (⟨#[109]⟩ : ByteArray) ++ R := by unfold mkText; rw [if_neg hk, hR]
  rw [e]
  have HR := Lib.hid hR
  clear e hR
  have hk0 : 0 < k := by omega
  go_enter Tryz.func140, Tryz.ntmps140
  go_wp2
  go_loopw [0, 3] (fun u v wr => ∃ (m : Nat) (out : ByteArray), u = .int .i64 m ∧ (m : Int) ≤ k ∧ v = .string out ∧ (out.size : Int) + m ≤ k ∧ Hid (digs m out = R) ∧ Below w.heap.size w wr) (fun u _ _ => (intOf u).toNat)
  case atStart => exact ⟨k.toNat, ⟨#[]⟩, by rw [Int.toNat_of_nonneg h0], by omega, rfl, by rw [show (⟨#[]⟩ : ByteArray).size = 0 from rfl]; omega, HR, Below.refl _ _⟩
  case round =>
    obtain ⟨m, out, rfl, hmk, rfl, hsz, hd, hb⟩ := hrel
    by_cases hm : 0 < m
    · have HD := Lib.hid ((digs_s hm out).symm.trans hd.out)
      have hm' : 0 < (m : Int) := by omega
      have hm2 : (m : Int) ≤ 4611686018427387904 := by omega
      clear hd
      have hs1 : (⟨#[48 + UInt8.ofNat (m % 10)]⟩ : ByteArray).size = 1 := rfl
      have hs2 : (out.size : Int) ≤ 4611686018427387904 := by omega
      go_wp2_with (refine wp_byteStr rfl _ _ _ rfl 5 Tryz.underlying303 Tryz.underlying5 Tryz.underlying9 _ _ _ rfl (blk_cell (blk_new _ _) 0) ?_)
      go_roundw
      case rel => exact ⟨m / 10, _, by simp, by omega, rfl, by rw [ByteArray.size_append, hs1]; omega, HD, bl9⟩
      case measure => simp [intOf]; omega
    · obtain rfl : m = 0 := by omega
      have e : out = R := by have := hd.out; rwa [digs_0] at this
      subst e
      have hs2 : (out.size : Int) ≤ 4611686018427387904 := by omega
      go_wp2
      go_ret
      exact ⟨rfl, hb⟩
/-! ### Marks of a row -/
def mkL {α : Type} (mk : Int → α → α) (ct : α → Nat) : Int → List α → List α
  | _, [] => []
  | k, x :: l => mk k x :: mkL mk ct (k + ct x) l
def ctL {α : Type} (ct : α → Nat) (l : List α) : Nat := (l.map ct).sum
theorem mkL_len {α : Type} (mk : Int → α → α) (ct : α → Nat) : ∀ (l : List α) (k : Int), (mkL mk ct k l).length = l.length
  | [], _ => rfl
  | x :: l, k => by simp [mkL, mkL_len mk ct l]
theorem mkL_get {α : Type} (mk : Int → α → α) (ct : α → Nat) : ∀ (l : List α) (k : Int) (j : Nat) (x : α), l[j]? = some x → (mkL mk ct k l)[j]? = some (mk (k + ctL ct (l.take j)) x)
  | [], _, _, _, h => by simp at h
  | y :: l, k, 0, x, h => by
    have e : y = x := by simpa using h
    subst e
    simp [mkL, ctL]
  | y :: l, k, j + 1, x, h => by
    have := mkL_get mk ct l (k + ct y) j x (by simpa using h)
    simp only [mkL, List.getElem?_cons_succ, this]
    congr 2
    simp [ctL]
    omega
theorem ctL_snoc {α : Type} (ct : α → Nat) (l : List α) (k : Nat) (x : α) (hx : l[k]? = some x) : ctL ct (l.take (k + 1)) = ctL ct (l.take k) + ct x := by
  have hk : k < l.length := (List.getElem?_eq_some_iff.1 hx).1
  have e : l[k] = x := (List.getElem?_eq_some_iff.1 hx).2
  unfold ctL
  rw [List.take_succ_eq_append_getElem hk, List.map_append, List.sum_append, e]
  simp
theorem ctL_le {α : Type} (ct : α → Nat) (l : List α) (k : Nat) : ctL ct (l.take k) ≤ ctL ct l := by
  unfold ctL
  have : (l.map ct).sum = ((l.take k).map ct).sum + ((l.drop k).map ct).sum := by
    rw [← List.sum_append, ← List.map_append, List.take_append_drop]
  omega
theorem ctL_mem {α : Type} (ct : α → Nat) (l : List α) (k : Nat) (x : α) (hx : l[k]? = some x) : ctL ct (l.take k) + ct x ≤ ctL ct l := by
  have := ctL_snoc ct l k x hx
  have := ctL_le ct l (k + 1)
  omega
/-- A row marked up to a place. -/
def upto {α : Type} (mk : Int → α → α) (ct : α → Nat) (k : Int) (l : List α) (j : Nat) : List α := (mkL mk ct k l).take j ++ l.drop j
theorem upto_0 {α : Type} (mk : Int → α → α) (ct : α → Nat) (k : Int) (l : List α) : upto mk ct k l 0 = l := by simp [upto]
theorem upto_all {α : Type} (mk : Int → α → α) (ct : α → Nat) (k : Int) (l : List α) : upto mk ct k l l.length = mkL mk ct k l := by
  unfold upto
  rw [List.drop_length, List.append_nil, List.take_of_length_le (by rw [mkL_len]; exact Nat.le_refl _)]
theorem upto_len {α : Type} (mk : Int → α → α) (ct : α → Nat) (k : Int) (l : List α) (j : Nat) : (upto mk ct k l j).length = l.length := by
  have := mkL_len mk ct l k
  simp [upto]
  omega
theorem upto_get {α : Type} (mk : Int → α → α) (ct : α → Nat) (k : Int) (l : List α) (j : Nat) (x : α) (hx : l[j]? = some x) : (upto mk ct k l j)[j]? = some x := by
  have hj : j < l.length := (List.getElem?_eq_some_iff.1 hx).1
  have h1 := mkL_len mk ct l k
  unfold upto
  rw [List.getElem?_append_right (by rw [List.length_take]; omega), List.length_take, Nat.min_eq_left (by omega), Nat.sub_self, List.getElem?_drop, Nat.add_zero]
  exact hx
theorem upto_set {α : Type} (mk : Int → α → α) (ct : α → Nat) (k : Int) (l : List α) (j : Nat) (x : α) (hx : l[j]? = some x) : (upto mk ct k l j).set j (mk (k + ctL ct (l.take j)) x) = upto mk ct k l (j + 1) :=
  set_upto _ _ j _ (mkL_len mk ct l k) (mkL_get mk ct l k j x hx)
def ctIns (x : DIns) : Nat := 2
def mkIns (k : Int) (x : DIns) : DIns := { op := k, a := k + 1 }
theorem kIns_Oi {w : World} {x : DIns} {cs : List Value} {F : List Nat} : kIns.O w x cs F ↔ cs = [.int .i64 x.op, .int .i64 x.a] ∧ F = [] := by
  constructor
  · rintro ⟨_, _, _, _, rfl, rfl, ⟨rfl, rfl⟩, ⟨rfl, rfl⟩⟩
    exact ⟨rfl, rfl⟩
  · rintro ⟨rfl, rfl⟩
    have h : kIns.O w x [.int .i64 x.op, .int .i64 x.a] (([] ++ [])) := ⟨[.int .i64 x.op], [.int .i64 x.a], [], [], rfl, by simp, ⟨rfl, rfl⟩, ⟨rfl, rfl⟩⟩
    simpa using h
set_option maxHeartbeats 4000000 in
set_option maxRecDepth 100000 in
theorem markIns (v : Value) (l : List DIns) (k : Int) (F : List Nat) (w : World) (h : kIns.Own 305 w v l F) (hnd : F.Nodup) (h0 : 0 ≤ k) (h1 : k + ctL ctIns l ≤ 1152921504606846976) (h2 : l.length ≤ 1099511627776) : Calls Tryz.prog 141 #[v, .int .i64 k] w fun e w' => e = .returned (.int .i64 (k + ctL ctIns l)) ∧ kIns.Own 305 w' v (mkL mkIns ctIns k l) F ∧ But F w w' := by
  by_cases hn : 0 < l.length
  rotate_left
  · have e : l = [] := List.eq_nil_of_length_eq_zero (by omega)
    subst e
    obtain ⟨A, c, rfl, _, _⟩ := h.row
    go_enter Tryz.func141, Tryz.ntmps141
    go_wp2
    go_loopw [1, 5] (fun u i wr => u = .int .i64 k ∧ i = .int .i64 0 ∧ w = wr) (fun _ i _ => 0)
    case atStart => exact ⟨rfl, rfl, rfl⟩
    case round =>
      obtain ⟨rfl, rfl, rfl⟩ := hrel
      go_wp2
      go_ret
      exact ⟨by simp [ctL], h, But.refl _ _⟩
  obtain ⟨g, c, Fs, inner, rfl, hFe, hA0⟩ := h.toAt hnd hn
  subst hFe
  clear h hnd
  go_enter Tryz.func141, Tryz.ntmps141
  go_wp2
  go_loopw [1, 5] (fun u i wr => ∃ (j : Nat) (inner : List Value), j ≤ l.length ∧ u = .int .i64 (k + ctL ctIns (l.take j)) ∧ i = .int .i64 j ∧ kIns.At 305 wr g l.length c (upto mkIns ctIns k l j) Fs inner ∧ But (g :: Fs.flatten) w wr) (fun _ i _ => l.length - (intOf i).toNat)
  case atStart => exact ⟨0, inner, by omega, by simp [ctL], rfl, by rw [upto_0]; exact hA0, But.refl _ _⟩
  case round =>
    clear hA0
    obtain ⟨j, inner, hj, rfl, rfl, hA, hB⟩ := hrel
    by_cases hlt : j < l.length
    · obtain ⟨x, hx⟩ := get_exU l j hlt
      have hset := Lib.hid (upto_set mkIns ctIns k l j x hx)
      have hct := Lib.hid (ctL_snoc ctIns l j x hx)
      have hle := ctL_mem ctIns l j x hx
      have hul : j < (upto mkIns ctIns k l j).length := by rw [upto_len]; exact hlt
      obtain ⟨Fj, hFj, hO, hc⟩ := hA.elem j x (upto_get mkIns ctIns k l j x hx)
      obtain ⟨hseg, hFn⟩ := kIns_Oi.1 hO
      subst hFn
      obtain ⟨K, hK⟩ : ∃ K, k + (ctL ctIns (l.take j) : Int) = K := ⟨_, rfl⟩
      have hK0 : 0 ≤ K := by omega
      have hK1 : K + ctIns x ≤ 1152921504606846976 := by omega
      rw [hK]
      have HK := Lib.hid hK
      have HX := Lib.hid hx
      unfold ctIns at hK1
      have c0 : wr.cell? ⟨g, j * 2, none⟩ = some (.int .i64 (x.op)) := hc 0 _ (by rw [hseg]; rfl)
      have f0 : wr.frozen? ⟨g, j * 2, none⟩ = false := hA.free _
      have c1 : wr.cell? ⟨g, j * 2 + 1, none⟩ = some (.int .i64 (x.a)) := hc 1 _ (by rw [hseg]; rfl)
      have f1 : wr.frozen? ⟨g, j * 2 + 1, none⟩ = false := hA.free _
      have hP1 := hA.put j 0 (by skip; exact hul) (by decide) (.int .i64 (K)) ({ op := K, a := x.a } : DIns) [] hFj (by rw [hseg]; exact (kIns_Oi.2 ⟨rfl, rfl⟩))
      have hseg1 := (Knd.At.seg_set_same (d := kIns) inner j 0 (.int .i64 (K)) (by decide)).trans (congrArg (fun z => z.set 0 (.int .i64 (K))) hseg)
      have hP2 := hP1.put j 1 (by rw [List.length_set]; exact hul) (by decide) (.int .i64 (K + 1)) ({ op := K, a := K + 1 } : DIns) [] hFj (by rw [hseg1]; exact (kIns_Oi.2 ⟨rfl, rfl⟩))
      rw [List.set_set] at hP2
      have hseg2 := (Knd.At.seg_set_same (d := kIns) _ j 1 (.int .i64 (K + 1)) (by decide)).trans (congrArg (fun z => z.set 1 (.int .i64 (K + 1))) hseg1)
      have HP := Lib.hid hP2
      clear hK hle hO hc hP1 hP2 hA hseg1 hseg2
      go_wp2
      go_roundw
      case rel => exact ⟨j + 1, _, by omega, by rw [hct.out, ← HK.out]; simp [ctIns]; omega, by go_num, by rw [← hset.out, HK.out]; exact HP.out, (Knd.At.but_put (Knd.At.but_put hB _ _) _ _)⟩
      case measure => simp [intOf]; omega
    · obtain rfl : j = l.length := by omega
      rw [upto_all] at hA
      rw [List.take_length]
      go_wp2
      go_ret
      exact ⟨rfl, hA.own, hB⟩
def ctFunc (x : DFunc) : Nat := 2 + ctL ctIns x.code
def mkFunc (k : Int) (x : DFunc) : DFunc := { params := k, locals := k + 1, code := mkL mkIns ctIns (k + 1 + 1) x.code }
theorem kFunc_Oi {w : World} {x : DFunc} {cs : List Value} {F : List Nat} : kFunc.O w x cs F ↔ ∃ (v2 : Value) (F2 : List Nat), cs = [.int .i64 x.params, .int .i64 x.locals, v2] ∧ F = F2 ∧ kIns.Own 305 w v2 x.code F2 := by
  constructor
  · rintro ⟨_, _, _, _, rfl, rfl, ⟨rfl, rfl⟩, ⟨_, _, _, _, rfl, rfl, ⟨rfl, rfl⟩, ⟨v2, rfl, o2⟩⟩⟩
    exact ⟨v2, _, rfl, by simp, o2⟩
  · rintro ⟨v2, F2, rfl, rfl, o2⟩
    have h : kFunc.O w x [.int .i64 x.params, .int .i64 x.locals, v2] (([] ++ ([] ++ F))) := ⟨[.int .i64 x.params], [.int .i64 x.locals, v2], [], ([] ++ F), rfl, by simp, ⟨rfl, rfl⟩, ⟨[.int .i64 x.locals], [v2], [], F, rfl, by simp, ⟨rfl, rfl⟩, ⟨v2, rfl, o2⟩⟩⟩
    simpa using h
def mkI (k : Int) : List Int → List Int
  | [] => []
  | _ :: bs => k :: mkI (k + 1) bs
theorem mkI_len (k : Int) (bs : List Int) : (mkI k bs).length = bs.length := by
  induction bs generalizing k with
  | nil => rfl
  | cons b bs ih => simp [mkI, ih]
theorem mkI_get (k : Int) (bs : List Int) (j : Nat) (hj : j < bs.length) : (mkI k bs)[j]? = some (k + j) := by
  induction bs generalizing k j with
  | nil => simp at hj
  | cons b bs ih =>
    cases j with
    | zero => simp [mkI]
    | succ j =>
      have := ih (k + 1) j (by simpa using hj)
      simp only [mkI, List.getElem?_cons_succ, this]
      congr 1
      omega
set_option maxHeartbeats 1000000 in
theorem heldI (A : Option Addr) (c : Nat) (bs : List Int) (k : Int) (w : World) (hr : (Knd.int .i64).Row w A bs.length (mkI k bs)) (h1 : 0 ≤ k) (h2 : k ≤ 1099511627776) (h3 : bs.length ≤ 1099511627776) : Calls Tryz.prog 39 #[.slice A bs.length c, .int .i64 k] w fun e w' => e = .returned (.int .i64 (k + bs.length)) ∧ w = w' := by
  go_enter Tryz.func39, Tryz.ntmps39
  go_wp2
  go_loopw [1, 5] (fun u i wr => ∃ j : Nat, j ≤ bs.length ∧ u = .int .i64 (k + j) ∧ i = .int .i64 j ∧ w = wr) (fun _ i _ => bs.length - (intOf i).toNat)
  case atStart => exact ⟨0, by omega, by simp, rfl, rfl⟩
  case round =>
    obtain ⟨j, hj, rfl, rfl, rfl⟩ := hrel
    by_cases hlt : j < bs.length
    · have hx := mkI_get k bs j hlt
      obtain ⟨ad, cs, rfl, hK, q⟩ := hr.get j _ hx
      obtain rfl : cs = [.int .i64 (k + j)] := hK
      have q0 : w.cell? (ad.add j) = some (.int .i64 (k + j)) := by have := q 0 _ rfl; simpa [Knd.int, Knd.scalar] using this
      clear q hx
      have hkj0 : 0 ≤ k + (j : Int) := by omega
      have hkj1 : k + (j : Int) ≤ 9999999999999 := by omega
      go_wp2
      go_roundw
      case rel => exact ⟨j + 1, by omega, by simp; omega, by go_num, trivial⟩
      case measure => simp [intOf]; omega
    · obtain rfl : j = bs.length := by omega
      go_wp2
      go_ret
      exact ⟨rfl, rfl⟩
set_option maxHeartbeats 1000000 in
theorem markI (v : Value) (bs : List Int) (k : Int) (F : List Nat) (w : World) (h : (Knd.int .i64).Own 3 w v bs F) (h1 : 0 ≤ k) (h2 : k ≤ 1099511627776) (h3 : bs.length ≤ 1099511627776) : Calls Tryz.prog 38 #[v, .int .i64 k] w fun e w' => e = .returned (.int .i64 (k + bs.length)) ∧ (Knd.int .i64).Own 3 w' v (mkI k bs) F ∧ But F w w' := by
  by_cases hn : 0 < bs.length
  · obtain ⟨Fs0, hF0, _⟩ := h.fs
    obtain ⟨g, c, rfl⟩ := hF0.form hn
    have hFg : F = [g] := Knd.flat_own h
    clear hF0
    go_enter Tryz.func38, Tryz.ntmps38
    go_wp2
    go_loopw [1, 5] (fun u i wr => ∃ j : Nat, j ≤ bs.length ∧ u = .int .i64 (k + j) ∧ i = .int .i64 j ∧ (Knd.int .i64).Own 3 wr (.slice (some ⟨g, 0, none⟩) bs.length c) ((mkI k bs).take j ++ bs.drop j) F ∧ But F w wr) (fun _ i _ => bs.length - (intOf i).toNat)
    case atStart => exact ⟨0, by omega, by simp, rfl, by simpa using h, But.refl _ _⟩
    case round =>
      obtain ⟨j, hj, rfl, rfl, ho, hB⟩ := hrel
      by_cases hlt : j < bs.length
      · have hx := mkI_get k bs j hlt
        have hs := set_upto (mkI k bs) bs j _ (mkI_len k bs) hx
        have hlen : ((mkI k bs).take j ++ bs.drop j).length = bs.length := by
          have := mkI_len k bs
          simp
          omega
        obtain ⟨Fs, hF, hFF⟩ := ho.fs
        obtain ⟨u0, s0⟩ := hF.cell j (by rw [hlen]; show _ < bs.length * 1; omega)
        have f0 := hF.free j
        have hp := hF.put j (by rw [hlen]; exact hlt) [.int .i64 (k + j)] (k + j) [] ⟨rfl, rfl⟩ (by simp) (by rw [Knd.flat_nil hF]; simp)
        rw [hs] at hp
        have hp2 := hp.own
        rw [Knd.flat_own hp2] at hp2
        have e : j * (Knd.int .i64).sz = j := Nat.mul_one j
        rw [e] at hp2
        have HP := Lib.hid hp2
        have hkj0 : 0 ≤ k + (j : Int) := by omega
        have hkj1 : k + (j : Int) ≤ 9999999999999 := by omega
        clear hs hlen hp hp2 hx e
        go_wp2
        go_roundw
        case rel =>
          refine ⟨j + 1, by omega, by simp; omega, by go_num, ?_, hB.set (by rw [hFg]; simp) _ _⟩
          rw [hFg]
          exact HP.out
        case measure => simp [intOf]; omega
      · obtain rfl : j = bs.length := by omega
        go_wp2
        go_ret
        refine ⟨rfl, ?_, hB⟩
        rw [List.drop_length, List.append_nil, List.take_of_length_le (by rw [mkI_len]; exact Nat.le_refl _)] at ho
        exact ho
  · have e : bs = [] := List.eq_nil_of_length_eq_zero (by omega)
    subst e
    obtain ⟨A, c, rfl, _, _⟩ := h.row
    go_enter Tryz.func38, Tryz.ntmps38
    go_wp2
    go_loopw [1, 5] (fun u i wr => u = .int .i64 k ∧ i = .int .i64 0 ∧ w = wr) (fun _ i _ => 0)
    case atStart => exact ⟨rfl, rfl, rfl⟩
    case round =>
      obtain ⟨rfl, rfl, rfl⟩ := hrel
      go_wp2
      go_ret
      exact ⟨by simp, h, But.refl _ _⟩
theorem ctL_one {α : Type} (l : List α) : ctL (fun _ => 1) l = l.length := by
  unfold ctL
  induction l with
  | nil => rfl
  | cons x l ih => simp [ih]; omega
def mkStr (k : Int) (_ : ByteArray) : ByteArray := mkText k
set_option maxHeartbeats 4000000 in
set_option maxRecDepth 100000 in
theorem markStr (v : Value) (l : List ByteArray) (k : Int) (F : List Nat) (w : World) (h : Knd.str.Own 9 w v l F) (h0 : 0 ≤ k) (h1 : k + l.length ≤ 1152921504606846976) (h2 : l.length ≤ 1099511627776) : Calls Tryz.prog 71 #[v, .int .i64 k] w fun e w' => e = .returned (.int .i64 (k + l.length)) ∧ Knd.str.Own 9 w' v (mkL mkStr (fun _ => 1) k l) F ∧ But F w w' := by
  by_cases hn : 0 < l.length
  rotate_left
  · have e : l = [] := List.eq_nil_of_length_eq_zero (by omega)
    subst e
    obtain ⟨A, c, rfl, _, _⟩ := h.row
    go_enter Tryz.func71, Tryz.ntmps71
    go_wp2
    go_loopw [1, 5] (fun u i wr => u = .int .i64 k ∧ i = .int .i64 0 ∧ w = wr) (fun _ i _ => 0)
    case atStart => exact ⟨rfl, rfl, rfl⟩
    case round =>
      obtain ⟨rfl, rfl, rfl⟩ := hrel
      go_wp2
      go_ret
      exact ⟨by simp, h, But.refl _ _⟩
  obtain ⟨g, c, rfl, hgF⟩ := own_form h hn
  have hF := Knd.flat_own h
  go_enter Tryz.func71, Tryz.ntmps71
  go_wp2
  go_loopw [1, 5] (fun u i wr => ∃ j : Nat, j ≤ l.length ∧ u = .int .i64 (k + j) ∧ i = .int .i64 j ∧ Knd.str.Own 9 wr (.slice (some ⟨g, 0, none⟩) l.length c) (upto mkStr (fun _ => 1) k l j) F ∧ But F w wr) (fun _ i _ => l.length - (intOf i).toNat)
  case atStart => exact ⟨0, by omega, by simp, rfl, by rw [upto_0]; exact h, But.refl _ _⟩
  case round =>
    obtain ⟨j, hj, rfl, rfl, ho, hB⟩ := hrel
    by_cases hlt : j < l.length
    · obtain ⟨x, hx⟩ := get_exU l j hlt
      have hset := upto_set mkStr (fun _ => 1) k l j x hx
      rw [ctL_one, List.length_take, Nat.min_eq_left (by omega)] at hset
      have HS := Lib.hid hset
      have hul : j < (upto mkStr (fun _ => 1) k l j).length := by rw [upto_len]; exact hlt
      have hx2 := upto_get mkStr (fun _ => 1) k l j x hx
      obtain ⟨K, hK⟩ : ∃ K, k + (j : Int) = K := ⟨_, rfl⟩
      have hK0 : 0 ≤ K := by omega
      have hK1 : K ≤ 1152921504606846976 := by omega
      rw [hK]
      have HK := Lib.hid hK
      have HX := Lib.hid hx2
      have HU := Lib.hid hul
      clear hset hx hx2 hul hK
      go_wp2_with fail
      refine (markText K _ (by omega) hK0).mono ?_
      rintro e w' ⟨rfl, hb⟩
      have ho2 := ho.below hb
      have c0 := ho2.cell1 j x HX.out
      have f0 := ho2.free1 j
      have HP := Lib.hid (ho2.put1 j HU.out (mkText K))
      have hB2 : But F w w' := hB.trans (But.of_below hb)
      clear ho ho2 hB
      go_wp2
      go_roundw
      case rel =>
        refine ⟨j + 1, by omega, by rw [← HK.out]; simp; omega, by go_num, ?_, hB2.set (by rw [hF]; simp [Value.ownBlock]) _ _⟩
        rw [← HS.out, HK.out]
        exact HP.out
      case measure => simp [intOf]; omega
    · obtain rfl : j = l.length := by omega
      rw [upto_all] at ho
      go_wp2
      go_ret
      exact ⟨rfl, ho, hB⟩
set_option maxHeartbeats 4000000 in
set_option maxRecDepth 100000 in
theorem markFunc (v : Value) (l : List DFunc) (k : Int) (F : List Nat) (w : World) (h : kFunc.Own 197 w v l F) (hnd : F.Nodup) (h0 : 0 ≤ k) (h1 : k + ctL ctFunc l ≤ 1152921504606846976) (h2 : l.length ≤ 1099511627776) (h3 : ∀ x ∈ l, x.code.length ≤ 1099511627776) : Calls Tryz.prog 72 #[v, .int .i64 k] w fun e w' => e = .returned (.int .i64 (k + ctL ctFunc l)) ∧ kFunc.Own 197 w' v (mkL mkFunc ctFunc k l) F ∧ But F w w' := by
  by_cases hn : 0 < l.length
  rotate_left
  · have e : l = [] := List.eq_nil_of_length_eq_zero (by omega)
    subst e
    obtain ⟨A, c, rfl, _, _⟩ := h.row
    go_enter Tryz.func72, Tryz.ntmps72
    go_wp2
    go_loopw [1, 5] (fun u i wr => u = .int .i64 k ∧ i = .int .i64 0 ∧ w = wr) (fun _ i _ => 0)
    case atStart => exact ⟨rfl, rfl, rfl⟩
    case round =>
      obtain ⟨rfl, rfl, rfl⟩ := hrel
      go_wp2
      go_ret
      exact ⟨by simp [ctL], h, But.refl _ _⟩
  obtain ⟨g, c, Fs, inner, rfl, hFe, hA0⟩ := h.toAt hnd hn
  subst hFe
  clear h hnd
  go_enter Tryz.func72, Tryz.ntmps72
  go_wp2
  go_loopw [1, 5] (fun u i wr => ∃ (j : Nat) (inner : List Value), j ≤ l.length ∧ u = .int .i64 (k + ctL ctFunc (l.take j)) ∧ i = .int .i64 j ∧ kFunc.At 197 wr g l.length c (upto mkFunc ctFunc k l j) Fs inner ∧ But (g :: Fs.flatten) w wr) (fun _ i _ => l.length - (intOf i).toNat)
  case atStart => exact ⟨0, inner, by omega, by simp [ctL], rfl, by rw [upto_0]; exact hA0, But.refl _ _⟩
  case round =>
    clear hA0
    obtain ⟨j, inner, hj, rfl, rfl, hA, hB⟩ := hrel
    by_cases hlt : j < l.length
    · obtain ⟨x, hx⟩ := get_exU l j hlt
      have hset := Lib.hid (upto_set mkFunc ctFunc k l j x hx)
      have hct := Lib.hid (ctL_snoc ctFunc l j x hx)
      have hle := ctL_mem ctFunc l j x hx
      have hxc := h3 x (List.mem_of_getElem? hx)
      have hul : j < (upto mkFunc ctFunc k l j).length := by rw [upto_len]; exact hlt
      obtain ⟨Fj, hFj, hO, hc⟩ := hA.elem j x (upto_get mkFunc ctFunc k l j x hx)
      obtain ⟨v2, G2, hseg, hFn, o2⟩ := kFunc_Oi.1 hO
      have hGl : ∀ q ∈ Fj, q ∈ Fs.flatten := fun q hq => List.mem_flatten.2 ⟨Fj, List.mem_of_getElem? hFj, hq⟩
      have hnj : Fj.Nodup := (List.pairwise_flatten.1 (List.nodup_cons.1 hA.nd).2).1 Fj (List.mem_of_getElem? hFj)
      subst hFn
      obtain ⟨K, hK⟩ : ∃ K, k + (ctL ctFunc (l.take j) : Int) = K := ⟨_, rfl⟩
      have hK0 : 0 ≤ K := by omega
      have hK1 : K + ctFunc x ≤ 1152921504606846976 := by omega
      rw [hK]
      have HK := Lib.hid hK
      have HX := Lib.hid hx
      unfold ctFunc at hK1
      have c0 : wr.cell? ⟨g, j * 3, none⟩ = some (.int .i64 x.params) := hc 0 _ (by rw [hseg]; rfl)
      have c1 : wr.cell? ⟨g, j * 3 + 1, none⟩ = some (.int .i64 x.locals) := hc 1 _ (by rw [hseg]; rfl)
      have c2 : wr.cell? ⟨g, j * 3 + 2, none⟩ = some v2 := hc 2 _ (by rw [hseg]; rfl)
      have f0 : wr.frozen? ⟨g, j * 3, none⟩ = false := hA.free _
      have f1 : wr.frozen? ⟨g, j * 3 + 1, none⟩ = false := hA.free _
      have hP1 : kFunc.At 197 (wr.setCell ⟨g, j * 3, none⟩ (.int .i64 K)) g l.length c _ Fs _ := hA.put j 0 hul (by decide) (.int .i64 K) (⟨K, x.locals, x.code⟩ : DFunc) Fj hFj (by rw [hseg]; exact kFunc_Oi.2 ⟨v2, Fj, rfl, rfl, o2⟩)
      have hs1 := (Knd.At.seg_set_same (d := kFunc) inner j 0 (.int .i64 K) (by decide)).trans (congrArg (fun z => z.set 0 (.int .i64 K)) hseg)
      have o2' : kIns.Own 305 (wr.setCell ⟨g, j * 3, none⟩ (.int .i64 K)) v2 x.code Fj := o2.frame (fun q hq => Below.heap_setCell _ _ _ q (fun he => hA.gne q (hGl q hq) he))
      have hP2 : kFunc.At 197 ((wr.setCell ⟨g, j * 3, none⟩ (.int .i64 K)).setCell ⟨g, j * 3 + 1, none⟩ (.int .i64 (K + 1))) g l.length c _ Fs _ := hP1.put j 1 (by rw [List.length_set]; exact hul) (by decide) (.int .i64 (K + 1)) (⟨K, K + 1, x.code⟩ : DFunc) Fj hFj (by rw [hs1]; exact kFunc_Oi.2 ⟨v2, Fj, rfl, rfl, o2'⟩)
      rw [List.set_set] at hP2
      have hs2 := (Knd.At.seg_set_same (d := kFunc) _ j 1 (.int .i64 (K + 1)) (by decide)).trans (congrArg (fun z => z.set 1 (.int .i64 (K + 1))) hs1)
      have o2'' : kIns.Own 305 ((wr.setCell ⟨g, j * 3, none⟩ (.int .i64 K)).setCell ⟨g, j * 3 + 1, none⟩ (.int .i64 (K + 1))) v2 x.code Fj := o2'.frame (fun q hq => Below.heap_setCell _ _ _ q (fun he => hA.gne q (hGl q hq) he))
      have hB2 := Knd.At.but_put (Knd.At.but_put hB (j * 3) (.int .i64 K)) (j * 3 + 1) (.int .i64 (K + 1))
      have C := markIns v2 x.code (K + 1 + 1) Fj _ o2'' hnj (by omega) (by omega) hxc
      have HP := Lib.hid hP2
      have HB := Lib.hid hB2
      have HS := Lib.hid hs2
      have HL := Lib.hid hul
      have HF := Lib.hid hFj
      clear hK hle hO hc hP1 hP2 hs1 hs2 hB hB2 o2 o2' o2'' hA hseg hul hFj hnj
      go_wp2_with fail
      refine C.mono ?_
      rintro e w' ⟨rfl, ho, hBi⟩
      have hT := HP.out.turn j (by rw [List.length_set]; exact HL.out) (⟨K, K + 1, mkL mkIns ctIns (K + 1 + 1) x.code⟩ : DFunc) Fj Fj HF.out (fun q hq => hq) hBi (by rw [HS.out]; exact kFunc_Oi.2 ⟨v2, Fj, rfl, rfl, ho⟩)
      rw [List.set_set] at hT
      have HT := Lib.hid hT
      clear hT ho C
      go_wp2
      go_roundw
      case rel =>
        have hT3 := HT.out
        rw [show (⟨K, K + 1, mkL mkIns ctIns (K + 1 + 1) x.code⟩ : DFunc) = mkFunc (k + ctL ctFunc (l.take j)) x from by rw [HK.out]; rfl, hset.out] at hT3
        exact ⟨j + 1, _, by omega, by rw [hct.out, ← HK.out]; simp [ctFunc]; omega, by go_num, hT3, Knd.At.but_turn HB.out HF.out (fun q hq => hq) hBi⟩
      case measure => simp [intOf]; omega
    · obtain rfl : j = l.length := by omega
      rw [upto_all] at hA
      rw [List.take_length]
      go_wp2
      go_ret
      exact ⟨rfl, hA.own, hB⟩
/-- A module's mark: where it ends, and that it writes into the module's own rows alone. -/
theorem markModule (v u : Value) (t : List ByteArray) (l : List DFunc) (k : Int) (F G : List Nat) (w : World) (ht : Knd.str.Own 9 w v t F) (hl : kFunc.Own 197 w u l G) (hnd : (F ++ G).Nodup) (h0 : 0 ≤ k) (h1 : k + t.length + ctL ctFunc l ≤ 1152921504606846976) (h2 : t.length ≤ 1099511627776) (h3 : l.length ≤ 1099511627776) (h4 : ∀ x ∈ l, x.code.length ≤ 1099511627776) :
    Calls Tryz.prog 20 #[.agg #[v, u], .int .i64 k] w fun e w' => e = .returned (.int .i64 (k + t.length + ctL ctFunc l)) ∧ Knd.str.Own 9 w' v (mkL mkStr (fun _ => 1) k t) F ∧ kFunc.Own 197 w' u (mkL mkFunc ctFunc (k + t.length) l) G ∧ But (F ++ G) w w' := by
  obtain ⟨hnF, hnG, hFG⟩ := List.nodup_append.1 hnd
  have ht0 := ht.below (bl_alloc (Below.refl w.heap.size w) (.cells #[v, u] 36 (0, 0)))
  have hl0 := hl.below (bl_alloc (Below.refl w.heap.size w) (.cells #[v, u] 36 (0, 0)))
  have hFl := ht.lt
  have hGl := hl.lt
  obtain ⟨Av, cv, rfl, _, _⟩ := ht.row
  obtain ⟨Au, cu, rfl, _, _⟩ := hl.row
  go_enter Tryz.func20, Tryz.ntmps20
  go_wp2_with fail
  refine (markStr _ t k F _ ht0 h0 (by omega) h2).mono ?_
  rintro e w1 ⟨rfl, ht1, hB1⟩
  have x0 : w1.heap[w.heap.size]? = some (.cells #[.slice Av t.length cv, .slice Au l.length cu] 36 (0, 0)) := (hB1.block _ (by simp) (fun hm => by have := hFl _ hm; omega)).trans (blk_new w _)
  have m1 : w1.cell? ⟨w.heap.size, 1, none⟩ = some (.slice Au l.length cu) := blk_cell x0 1
  have hl1 : kFunc.Own 197 w1 (.slice Au l.length cu) l G := hl0.frame (fun q hq => hB1.block q (by simp; have := hGl q hq; omega) (fun hm => hFG q hm q hq rfl))
  have ht1' := Lib.hid ht1
  clear ht0 hl0 ht1
  go_wp2_with fail
  refine (markFunc _ l (k + t.length) G _ hl1 hnG (by omega) (by omega) h3 h4).mono ?_
  rintro e w2 ⟨rfl, hl2, hB2⟩
  have ht2 : Knd.str.Own 9 w2 (.slice Av t.length cv) (mkL mkStr (fun _ => 1) k t) F := ht1'.out.frame (fun q hq => hB2.block q (by have := ht1'.out.lt q hq; omega) (fun hm => hFG q hq q hm rfl))
  have hBB : But (F ++ G) w w2 := by
    have b1 : But F w w1 := (But.of_below (bl_alloc (Below.refl _ _) _)).then hB1 (fun q hq => .inl hq)
    exact (b1.mono (fun q hq => List.mem_append_left _ hq)).then hB2 (fun q hq => .inl (List.mem_append_right _ hq))
  have H2 := Lib.hid ht2
  have H3 := Lib.hid hl2
  clear ht2 hl2 hl1 x0 m1
  go_wp2
  go_ret
  exact ⟨rfl, H2.out, H3.out, hBB⟩
end Go.Proofs.YthinhlcfpaaldaaGreat.Dat

/- What the walks of the laws with marks lean on: a module's two rows as one resource; comparisons of rows. -/
namespace Go.Proofs.YthinhlcfpaaldaaGreat.Mem
open Go Go.RowKit
/-- Two resources as one. -/
def Res.two (a b : Res) : Res := ⟨a.F ++ b.F, fun W => a.P W ∧ b.P W, fun h g hg => by
  rcases List.mem_append.1 hg with hg | hg
  · exact a.lt h.1 g hg
  · exact b.lt h.2 g hg, fun h k => ⟨a.loc (fun g hg => h g (List.mem_append_left _ hg)) k.1, b.loc (fun g hg => h g (List.mem_append_right _ hg)) k.2⟩⟩
end Go.Proofs.YthinhlcfpaaldaaGreat.Mem
namespace Go.Proofs.YthinhlcfpaaldaaGreat.Dat
open Go Go.RowKit Go.Proofs.YthinhlcfpaaldaaGreat.Mem
set_option linter.unusedVariables false
set_option linter.unusedSimpArgs false
def Res.mod (v u : Value) (t : List ByteArray) (l : List DFunc) (F G : List Nat) : Res := Res.two (Res.own Knd.str 9 v t F) (Res.own kFunc 197 u l G)
theorem St.newMod {w W W' : World} {L : List Res} {v u : Value} {t : List ByteArray} {l : List DFunc} {F G : List Nat} (h : St w L W) (hot : Knd.str.Own 9 W' v t F) (hor : kFunc.Own 197 W' u l G) (hnd : (F ++ G).Nodup) (hF : ∀ g ∈ F ++ G, W.heap.size ≤ g) (hb : Below W.heap.size W W') : St w (Res.mod v u t l F G :: L) W' :=
  h.new (r := Res.mod v u t l F G) hb ⟨hot, hor⟩ hnd hF
/-- A module among the resources, as a call reads it. -/
theorem St.modR {w W : World} {L : List Res} {v u : Value} {t : List ByteArray} {l : List DFunc} {F G : List Nat} (h : St w L W) (i : Nat) (hi : L[i]? = some (Res.mod v u t l F G)) : ∃ A c B d, v = .slice A t.length c ∧ u = .slice B l.length d ∧ Knd.str.Row W A t.length t ∧ kFunc.Row W B l.length l := by
  obtain ⟨h1, h2⟩ := h.get i hi
  obtain ⟨A, c, hv, _, hr⟩ := Knd.Own.row h1
  obtain ⟨B, d, hu, _, hr2⟩ := Knd.Own.row h2
  exact ⟨A, c, B, d, hv, hu, hr, hr2⟩
theorem St.modA {w W : World} {L : List Res} {A B : Option Addr} {n m c d : Nat} {t : List ByteArray} {l : List DFunc} {F G : List Nat} (h : St w L W) (i : Nat) (hi : L[i]? = some (Res.mod (.slice A n c) (.slice B m d) t l F G)) : Knd.str.Row W A t.length t ∧ kFunc.Row W B l.length l := by
  obtain ⟨A', c', B', d', h1, h2, h3, h4⟩ := St.modR h i hi
  cases h1
  cases h2
  exact ⟨h3, h4⟩
theorem St.rowA {w W : World} {L : List Res} {α : Type} {d : Knd α} {e : Nat} {A : Option Addr} {n c : Nat} {xs : List α} {F : List Nat} (h : St w L W) (i : Nat) (hi : L[i]? = some (Res.own d e (.slice A n c) xs F)) : d.Row W A xs.length xs := by
  obtain ⟨A', c', h1, _, h3⟩ := h.row i hi
  cases h1
  exact h3
theorem St.rowN {w W : World} {L : List Res} {α : Type} {d : Knd α} {e : Nat} {A : Option Addr} {n c : Nat} {xs : List α} {F : List Nat} (h : St w L W) (i : Nat) (hi : L[i]? = some (Res.own d e (.slice A n c) xs F)) (hn : xs.length = n) : d.Row W A n xs := by
  have h1 := St.rowA h i hi
  rwa [hn] at h1
theorem St.newRowF {w W W' : World} {L : List Res} {α : Type} {d : Knd α} {e : Nat} {xs : List α} {en : Ending} (h : St w L W) (hn : NewRow d e xs W en W') : ∃ A c F, en = .returned (.slice A xs.length c) ∧ St w (Res.own d e (.slice A xs.length c) xs F :: L) W' := by
  obtain ⟨v, F, rfl, h2⟩ := h.newRow hn
  obtain ⟨A, c, rfl, _, _⟩ := h2.row 0 rfl
  exact ⟨A, c, F, rfl, h2⟩
set_option maxHeartbeats 1000000 in
theorem eqIntS (A B : Option Addr) (c c' : Nat) (l : List Int) (w : World) (hr : (Knd.int .i64).Row w A l.length l) (hr' : (Knd.int .i64).Row w B l.length l) : Calls Tryz.prog 36 #[.slice A l.length c, .slice B l.length c'] w fun e w' => e = .returned (.bool true) ∧ Below w.heap.size w w' := by
  have hm := hr.2.1
  go_enter Tryz.func36, Tryz.ntmps36
  go_wp2
  go_loopw [5] (fun i wr => ∃ k : Nat, k ≤ l.length ∧ i = .int .i64 k ∧ Below w.heap.size w wr) (fun i _ => l.length - (intOf i).toNat)
  case atStart => exact ⟨0, by omega, rfl, Below.refl _ _⟩
  case round =>
    obtain ⟨k, hk, rfl, hb⟩ := hrel
    by_cases hlt : k < l.length
    · obtain ⟨x, hx⟩ := get_exE l k hlt
      obtain ⟨ad, rfl, q0⟩ := (hr.below hb).one k x hx
      obtain ⟨ad', rfl, r0⟩ := (hr'.below hb).one k x hx
      clear hx
      go_wp2
      go_region_held3 (fun w' => w'.cell? (ad.add k) = some (.int .i64 x) ∧ w'.cell? (ad'.add k) = some (.int .i64 x) ∧ Below w.heap.size w w') ((refine ⟨?_, ?_, ?_⟩ <;> first | assumption | (go_keep; done) | exact bl9)) (first | fail)
      go_wp2
      go_roundw
      case rel => exact ⟨k + 1, by omega, by go_num, bl9⟩
      case measure => simp [intOf]; omega
    · go_wp2
      go_ret
      exact ⟨rfl, hb⟩
/-- A module's mark stays small. -/
theorem ctFunc_small (l : List DFunc) (h1 : l.length ≤ 1048576) (h2 : ∀ x ∈ l, x.code.length ≤ 1048576) : ctL ctFunc l ≤ 4611686018427 := by
  have h3 : ∀ x ∈ l, ctFunc x ≤ 2097154 := fun x hx => by
    have := h2 x hx
    have h4 : ctL ctIns x.code = 2 * x.code.length := by
      unfold ctL
      generalize x.code = c
      induction c with
      | nil => rfl
      | cons y c ih => simp [ctIns, ih]; omega
    unfold ctFunc
    omega
  have h5 : ∀ m : List DFunc, (∀ x ∈ m, ctFunc x ≤ 2097154) → ctL ctFunc m ≤ 2097154 * m.length := by
    intro m
    induction m with
    | nil => simp [ctL]
    | cons y m ih =>
      intro h
      have a1 := h y (by simp)
      have a2 := ih (fun x hx => h x (by simp [hx]))
      unfold ctL at a2 ⊢
      simp only [List.map_cons, List.sum_cons, List.length_cons]
      omega
  have := h5 l h3
  omega
end Go.Proofs.YthinhlcfpaaldaaGreat.Dat
