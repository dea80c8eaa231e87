/- Verify in the program. -/
import Derived.Test.YteoibjacgnmnpaaDep
import Derived.Test.YteoibjacgnmnpaaFnI
import Derived.Deep.DeepCutAuto
namespace Go.Proofs.Yteoibjacgnmnpaa.Dat
open Go Go.RowKit Go.Proofs.Yteoibjacgnmnpaa.Mem
set_option linter.unusedVariables false
set_option linter.unusedSimpArgs false
theorem vcl (A : Option Addr) (n c : Nat) (m : Nat) (left h : Int) (g4 g7 : Nat) (ad : Addr) (w : World) (h1 : w.cell? ⟨g4, 0, none⟩ = some (.slice (some ad) n c)) (h2 : w.cell? ⟨g7, 0, none⟩ = some (.int .i64 left)) (hm : m < n) (h3 : w.cell? (ad.add m) = some (.int .i64 h)) (hn : n ≤ 1048576) :
    Calls Try.prog 178 #[.int .i64 m, .pointer (some ⟨g4, 0, none⟩), .pointer (some ⟨g7, 0, none⟩)] w fun e w' => e = .returned (.bool (decide (h ≠ left))) ∧ Below w.heap.size w w' := by
  by_cases hq : h = left
  · subst hq
    go_enter Try.func178, Try.ntmps178
    go_wp2
    go_region_held3 (fun w' => w'.cell? ⟨g4, 0, none⟩ = some (.slice (some ad) n c) ∧ w'.cell? ⟨g7, 0, none⟩ = some (.int .i64 h) ∧ w'.cell? (ad.add m) = some (.int .i64 h) ∧ Below w.heap.size w w') ((refine ⟨?_, ?_, ?_, ?_⟩ <;> first | assumption | exact (by repeat (first | exact Below.refl _ _ | assumption | (refine bl_set ?_ (by dsimp only; omega) _) | refine bl_alloc ?_ _ | refine bl_drewN ?_ _ | refine bl_drew ?_ | refine bl_step ?_ (by assumption))))) (first | fail)
    go_wp2
    go_ret
    exact ⟨by simp, (by repeat (first | exact Below.refl _ _ | assumption | (refine bl_set ?_ (by dsimp only; omega) _) | refine bl_alloc ?_ _ | refine bl_drewN ?_ _ | refine bl_drew ?_ | refine bl_step ?_ (by assumption)))⟩
  · have hq2 : (h != left) = true := by simpa using hq
    go_enter Try.func178, Try.ntmps178
    go_wp2
    go_region_held3 (fun w' => w'.cell? ⟨g4, 0, none⟩ = some (.slice (some ad) n c) ∧ w'.cell? ⟨g7, 0, none⟩ = some (.int .i64 left) ∧ w'.cell? (ad.add m) = some (.int .i64 h) ∧ Below w.heap.size w w') ((refine ⟨?_, ?_, ?_, ?_⟩ <;> first | assumption | exact (by repeat (first | exact Below.refl _ _ | assumption | (refine bl_set ?_ (by dsimp only; omega) _) | refine bl_alloc ?_ _ | refine bl_drewN ?_ _ | refine bl_drew ?_ | refine bl_step ?_ (by assumption))))) (first | fail)
    go_wp2
    go_ret
    exact ⟨by simp [hq], (by repeat (first | exact Below.refl _ _ | assumption | (refine bl_set ?_ (by dsimp only; omega) _) | refine bl_alloc ?_ _ | refine bl_drewN ?_ _ | refine bl_drew ?_ | refine bl_step ?_ (by assumption)))⟩
theorem modOkI' (A B : Option Addr) (c d : Nat) (t : List ByteArray) (l : List DFunc) (w : World) (ht : Knd.str.Row w A t.length t) (hr : kFunc.Row w B l.length l) (htm : t.length ≤ 1048576) (hm : l.length ≤ 1048576) (htv : ∀ x ∈ t, x.size ≤ maxLen) (hv : ∀ x ∈ l, x.code.length ≤ 1048576 ∧ -9223372036854775808 ≤ x.locals ∧ x.locals ≤ 9223372036854775807) {b : Bool} (hb : modB t l = b) :
    Calls Try.prog 72 #[.agg #[.slice A t.length c, .slice B l.length d]] w fun e w' => e = .returned (.bool b) ∧ Below w.heap.size w w' := hb ▸ modOkI A B c d t l w ht hr htm hm htv hv
def trV (r : Int × Int × Int) : Value := .agg #[.int .i64 r.1, .int .i64 r.2.1, .int .i64 r.2.2]
set_option maxHeartbeats 4000000 in
set_option maxRecDepth 100000 in
theorem verI (A B : Option Addr) (c d : Nat) (t : List ByteArray) (l : List DFunc) (w : World) (ht : Knd.str.Row w A t.length t) (hr : kFunc.Row w B l.length l) (htm : t.length ≤ 1048576) (hm : l.length ≤ 1048576) (htv : ∀ x ∈ t, x.size ≤ maxLen) (hv : ∀ x ∈ l, x.code.length ≤ 1048576 ∧ -9223372036854775808 ≤ x.locals ∧ x.locals ≤ 9223372036854775807) :
    Calls Try.prog 143 #[.agg #[.slice A t.length c, .slice B l.length d]] w fun e w' => e = .returned (trV (verL t l)) ∧ Below w.heap.size w w' := by
  cases hb : modB t l
  · have e : verL t l = (1, 0, 0) := by unfold verL; rw [hb]; rfl
    rw [e]
    have HB := Lib.hid hb
    clear e hb
    go_enter Try.func143, Try.ntmps143
    go_wp2_with fail
    refine (modOkI' A B c d t l _ (ht.below (by repeat (first | exact Below.refl _ _ | assumption | (refine bl_set ?_ (by dsimp only; omega) _) | refine bl_alloc ?_ _ | refine bl_drewN ?_ _ | refine bl_drew ?_ | refine bl_step ?_ (by assumption)))) (hr.below (by repeat (first | exact Below.refl _ _ | assumption | (refine bl_set ?_ (by dsimp only; omega) _) | refine bl_alloc ?_ _ | refine bl_drewN ?_ _ | refine bl_drew ?_ | refine bl_step ?_ (by assumption)))) htm hm htv hv HB.out).mono ?_
    rintro e w1 ⟨rfl, hb1⟩
    obtain ⟨hc, hf⟩ := bcell hb1
    have hz := hb1.size
    simp at hz
    have y0 : w.heap.size + 1 < w1.heap.size := by omega
    go_wp2
    refine bodyPost_ret (v := .agg #[.int .i64 1, .int .i64 0, .int .i64 0]) (by simp [results, Try.results143, go_sem, true_and, *]) rfl ⟨rfl, (by repeat (first | exact Below.refl _ _ | assumption | (refine bl_set ?_ (by dsimp only; omega) _) | refine bl_alloc ?_ _ | refine bl_drewN ?_ _ | refine bl_drew ?_ | refine bl_step ?_ (by assumption)))⟩
  have hfit := modFit hb
  obtain ⟨R, hR⟩ : ∃ R, funcsT l l 0 = R := ⟨_, rfl⟩
  have e : verL t l = R := by unfold verL; rw [hb, hR]; rfl
  rw [e]
  have HB := Lib.hid hb
  have HR := Lib.hid hR
  have n12 := hfit.n12
  clear e hb hR
  have hS0 := ((St.start w).made (.cells #[.slice A t.length c, .slice B l.length d] 34 (0, 0))).madeAt (.cells #[.int .i64 0, .int .i64 0, .int .i64 0] 162 (0, 0)) (w.heap.size + 1) (by simp)
  go_enter Try.func143, Try.ntmps143
  go_wp2_with fail
  refine (modOkI' A B c d t l _ (ht.below hS0.bel) (hr.below hS0.bel) htm hm htv hv HB.out).mono ?_
  rintro e w1 ⟨rfl, hb1⟩
  have hS := hS0.step hb1
  have x0 := hS.cell 1 rfl
  clear hS0 hb1
  go_wp2
  go_loopw [17] (fun i wr => ∃ k : Nat, k ≤ l.length ∧ i = .int .i64 k ∧ Hid (funcsT l (l.drop k) k = R) ∧ St w [Res.box (w.heap.size + 1) (.cells #[.int .i64 0, .int .i64 0, .int .i64 0] 162 (0, 0)), Res.box w.heap.size (.cells #[.slice A t.length c, .slice B l.length d] 34 (0, 0))] wr) (fun i _ => l.length - (intOf i).toNat)
  case atStart => exact ⟨0, by omega, rfl, HR, hS⟩
  case round =>
    clear hS x0
    obtain ⟨k, hk, rfl, hT, hS⟩ := hrel
    have x0 := hS.cell 1 rfl
    have z0 := hS.cell 0 rfl
    have zf := hS.free 0 rfl
    by_cases hlt : k < l.length
    · obtain ⟨y, hy⟩ := get_exU l k hlt
      have HT := Lib.hid ((funcsT_at hy).symm.trans hT.out)
      have hym := List.mem_of_getElem? hy
      have n1 := hfit.c1 y hym
      have n120 := hfit.c120 y hym
      have hH := hfit.hgt hym
      obtain ⟨ad, A2, c2, rfl, _, _, q2', hq, hr2⟩ := kFunc_at hr k y hy
      have HY := Lib.hid hy
      clear hT hy
      go_wp2_with fail
      refine (depthsI A (some ad) c d t l k y _ (hr.below hS.bel) hfit HY.out).mono ?_
      intro e w2 hn
      obtain ⟨v, F, rfl, hS1⟩ := hS.newRow hn
      obtain ⟨D, hD⟩ : ∃ D, depthsL l y.code = D := ⟨_, rfl⟩
      rw [hD] at hS1 hH HT
      obtain ⟨g, cg, hv', hgF⟩ := own_form (hS1.get 0 rfl) (by rw [hH.1]; omega)
      rw [hH.1] at hv'
      subst hv'
      clear hn hS x0 z0 zf hD
      obtain ⟨g4, hg4⟩ : ∃ g4, w2.heap.size = g4 := ⟨_, rfl⟩
      have hS2 := hS1.madeAt (.cells #[.slice (some ⟨g, 0, none⟩) y.code.length cg] 124 (0, 0)) g4 hg4
      have x0 := hS2.cell 3 rfl
      have q2 := kept hS2.bel q2'
      go_wp2
      go_loopw [30] (fun i wr => ∃ pc : Nat, pc ≤ y.code.length ∧ i = .int .i64 pc ∧ Hid (codeT l D (y.code.drop pc) pc = codeT l D y.code 0) ∧ St w [Res.box g4 (.cells #[.slice (some ⟨g, 0, none⟩) y.code.length cg] 124 (0, 0)), Res.own (Knd.int .i64) 3 (.slice (some ⟨g, 0, none⟩) y.code.length cg) D F, Res.box (w.heap.size + 1) (.cells #[.int .i64 0, .int .i64 0, .int .i64 0] 162 (0, 0)), Res.box w.heap.size (.cells #[.slice A t.length c, .slice (some ad) l.length d] 34 (0, 0))] wr) (fun i _ => y.code.length - (intOf i).toNat)
      case atStart => exact ⟨0, by omega, rfl, rfl, hS2⟩
      case round =>
        clear hS1 hS2 x0 q2 hg4
        obtain ⟨pc, hpc, rfl, hQ, hS⟩ := hrel
        by_cases hlt2 : pc < y.code.length
        · obtain ⟨x, hx⟩ := get_exU y.code pc hlt2
          have HQ := Lib.hid ((codeT_at hx).symm.trans hQ.out)
          have hxf := hfit.fit hym (List.mem_of_getElem? hx)
          obtain ⟨ad2, rfl, r0, r1⟩ := kIns_at (hr2.below hS.bel) pc x hx
          have hlen : pc < D.length := by rw [hH.1]; exact hlt2
          have u0 := hS.cell1 1 rfl pc _ (at0_get hlen)
          have hat := hH.at_ pc
          obtain ⟨h, hh⟩ : ∃ h, at0 D pc = h := ⟨_, rfl⟩
          rw [hh] at u0 hat
          have Hh := Lib.hid hh
          obtain ⟨g6, hg6⟩ : ∃ g6, wr.heap.size = g6 := ⟨_, rfl⟩
          have hS0 := hS.madeAt (.cells #[.int .i64 x.op, .int .i64 x.a] 100 (0, 0)) g6 hg6
          have ug := kept (bl_alloc (Below.refl _ _) (.cells #[.int .i64 x.op, .int .i64 x.a] 100 (0, 0))) u0
          have x0 := hS.cell 0 rfl
          have gl4 : g4 < g6 := by rw [← hg6]; exact hS.blt 0 rfl
          have gl : g < g6 := by rw [← hg6]; exact hS.lts 1 rfl g hgF
          clear hx hQ hlen hh
          by_cases h0 : h < 0
          · have e : Hid (insT l D x pc = 0) := Lib.hid (by unfold insT; rw [if_pos (by rw [Hh.out]; exact h0)])
            go_wp2
            go_roundw
            case rel => exact ⟨pc + 1, by omega, by go_num, Lib.hid (by have := HQ.out; rwa [e.out, if_neg (by simp)] at this), hS.al _⟩
            case measure => simp [intOf]; omega
          have h0' : 0 ≤ h := by omega
          go_upto_region 11 with fail
          go_cut [7, 8] (fun s7 s8 wx => ∃ g7 : Nat, s7 = .pointer (some ⟨g7, 0, none⟩) ∧ s8 = .bool (canB l x h) ∧ St w (Res.box g7 (.cells #[.int .i64 (leftOf l x h)] 3 (0, 0)) :: Res.box g6 (.cells #[.int .i64 x.op, .int .i64 x.a] 100 (0, 0)) :: [Res.box g4 (.cells #[.slice (some ⟨g, 0, none⟩) y.code.length cg] 124 (0, 0)), Res.own (Knd.int .i64) 3 (.slice (some ⟨g, 0, none⟩) y.code.length cg) D F, Res.box (w.heap.size + 1) (.cells #[.int .i64 0, .int .i64 0, .int .i64 0] 162 (0, 0)), Res.box w.heap.size (.cells #[.slice A t.length c, .slice (some ad) l.length d] 34 (0, 0))]) wx)
          case first =>
            generalize wr.alloc (.cells #[.int .i64 x.op, .int .i64 x.a] 100 (0, 0)) = W at *
            clear u0 r0 r1 x0 hg6 gl gl4
            have c0 := hS0.cell 4 rfl 0; have c1 := hS0.cell 4 rfl 1; have c2 := hS0.cell 0 rfl 0; have c3 := hS0.cell 0 rfl 1; have c4 := hS0.cell 1 rfl 0; have k1 := World.new_ne _ _ c0; have k2 := World.new_ne _ _ c2; have k3 := World.new_ne _ _ c4; have k4 := World.new_ne _ _ ug
            go_region_held3 (fun w' => w'.cell? ⟨w.heap.size, 0, none⟩ = some (.slice A t.length c) ∧ w'.cell? ⟨w.heap.size, 1, none⟩ = some (.slice (some ad) l.length d) ∧ w'.cell? ⟨g6, 0, none⟩ = some (.int .i64 x.op) ∧ w'.cell? ⟨g6, 1, none⟩ = some (.int .i64 x.a) ∧ w'.cell? ⟨g4, 0, none⟩ = some (.slice (some ⟨g, 0, none⟩) y.code.length cg) ∧ w'.cell? ⟨g, pc, none⟩ = some (.int .i64 h)) ((go_keep; done)) (first | (go_at_call 156; refine (leavesI _ _ _ _ _ l x h _ (hr.below (by first | exact hS0.drew.bel | exact (hS0.al _).drew.bel)) (by omega) hfit.par (by omega) (by omega)).mono ?_; rintro e w' ⟨rfl, hb2⟩; (first | have ug := kept hb2 ug | have ug := kept hb2 (kept (bl_drew (bl_alloc (Below.refl _ _) _)) ug)); (first | (have hS0 := hS0.drew.step hb2; have c0 := hS0.cell 4 rfl 0; have c1 := hS0.cell 4 rfl 1; have c2 := hS0.cell 0 rfl 0; have c3 := hS0.cell 0 rfl 1; have c4 := hS0.cell 1 rfl 0; have k1 := World.new_ne _ _ c0; have k2 := World.new_ne _ _ c2; have k3 := World.new_ne _ _ c4; have k4 := World.new_ne _ _ ug) | (have hS0 := (hS0.made _).drew.step hb2; have c0 := hS0.cell 5 rfl 0; have c1 := hS0.cell 5 rfl 1; have c2 := hS0.cell 1 rfl 0; have c3 := hS0.cell 1 rfl 1; have c4 := hS0.cell 2 rfl 0; have n0 := hS0.cell 0 rfl; have nf := hS0.free 0 rfl))))
            all_goals (go_wp2_with fail; go_meet; first | exact ⟨_, rfl, rfl, hS0.made _⟩ | exact ⟨_, rfl, rfl, hS0.set 0 rfl 0 _⟩)
          case rest =>
            clear hS0 ug hS x0 r0 r1 u0 hg6 gl gl4
            obtain ⟨g7, rfl, rfl, hS⟩ := hcut
            have hW := hS.bel
            obtain ⟨left, hl⟩ : ∃ left, leftOf l x h = left := ⟨_, rfl⟩
            rw [hl] at hS
            cases hok : canB l x h
            · have hins := Lib.hid (show insT l D x pc = 2 by unfold insT; rw [if_neg (by rw [Hh.out]; omega), Hh.out, hok]; rfl)
              have z0 := hS.cell 4 rfl
              have zf := hS.free 4 rfl
              clear hok
              · have eR : R = (2, (k : Int), (pc : Int)) := by rw [← HT.out, ← HQ.out, if_pos (by rw [hins.out]; decide), hins.out]
                subst eR
                clear HT HQ HR
                go_wp2
                refine bodyPost_ret (v := .agg #[.int .i64 2, .int .i64 k, .int .i64 pc]) (by simp [results, Try.results143, go_sem, true_and, *]) rfl ⟨rfl, (by repeat (first | exact Below.refl _ _ | assumption | (refine bl_set ?_ (by dsimp only; omega) _) | refine bl_alloc ?_ _ | refine bl_drewN ?_ _ | refine bl_drew ?_ | refine bl_step ?_ (by assumption)))⟩
            · have HOK := Lib.hid hok
              have hnf := nexts_fit hxf hlt2
              have hnl : (nexts x pc).length ≤ 2 := by unfold nexts; split <;> (try split) <;> (try split) <;> simp
              have HI : ∀ r, (if (nexts x pc).any (fun tq => decide (tq = (y.code.length : Int))) then (3 : Int) else if (nexts x pc).any (fun tq => decide (at0 D tq ≠ left)) then 4 else 0) = r → Hid (insT l D x pc = r) := fun r e => Lib.hid (by unfold insT; rw [if_neg (by rw [Hh.out]; omega), Hh.out, hok, hl, hH.1]; exact e)
              have x6 := hS.cell 1 rfl
              clear hok hl
              go_wp2_with fail
              refine (followsI x pc _ (by omega)).mono ?_
              intro e w4 hn
              obtain ⟨v2, F2, rfl, hS1⟩ := hS.newRow hn
              obtain ⟨A3, c3, rfl, _, hrow⟩ := hS1.row 0 rfl
              obtain ⟨ns, hns⟩ : ∃ ns, nexts x pc = ns := ⟨_, rfl⟩
              rw [hns] at hS1 hrow hnl hnf HI
              rw [hns]
              have HNF := Lib.hid hnf
              have x4 := hS1.cell 3 rfl
              clear hn hS hns hnf hW x6
              go_wp2_with fail
              refine (hasInt A3 c3 ns y.code.length _ hrow (by omega)).mono ?_
              rintro e w5 ⟨rfl, hb5⟩
              have hS5 := hS1.step hb5
              clear hS1 x4 hb5 hrow
              cases hE : ns.any (fun tq => decide (tq = (y.code.length : Int)))
              rotate_left
              · have hins := HI 3 (by rw [hE]; rfl)
                have z0 := hS5.cell 5 rfl
                have zf := hS5.free 5 rfl
                have hW := hS5.bel
                clear hE HI
                have eR : R = (3, (k : Int), (pc : Int)) := by rw [← HT.out, ← HQ.out, if_pos (by rw [hins.out]; decide), hins.out]
                subst eR
                clear HT HQ HR
                go_wp2
                refine bodyPost_ret (v := .agg #[.int .i64 3, .int .i64 k, .int .i64 pc]) (by simp [results, Try.results143, go_sem, true_and, *]) rfl ⟨rfl, (by repeat (first | exact Below.refl _ _ | assumption | (refine bl_set ?_ (by dsimp only; omega) _) | refine bl_alloc ?_ _ | refine bl_drewN ?_ _ | refine bl_drew ?_ | refine bl_step ?_ (by assumption)))⟩
              have hnE : ∀ tq ∈ ns, tq ≠ (y.code.length : Int) := fun tq ht e => by
                have := List.any_eq_false.1 hE tq ht
                simp [e] at this
              have HI2 : ∀ r, (if ns.any (fun tq => decide (at0 D tq ≠ left)) then (4 : Int) else 0) = r → Hid (insT l D x pc = r) := fun r e => HI r (by rw [hE]; exact e)
              have HNE := Lib.hid hnE
              have c7 : w5.cell? ⟨g7, 0, none⟩ = some (.int .i64 left) := hS5.cell 1 rfl 0
              have c4 : w5.cell? ⟨g4, 0, none⟩ = some (.slice (some ⟨g, 0, none⟩) y.code.length cg) := hS5.cell 3 rfl 0
              have hD := fun (m : Nat) hm => Lib.hid (hS5.cell1 4 rfl m _ (at0_get (d := D) (k := m) hm))
              obtain ⟨A6, c6, hv6, _, hrow⟩ := hS5.row 0 rfl
              cases hv6
              have HA := Lib.hid (show Asks Try.prog (Knd.int .i64) one1 178 [.pointer (some ⟨g4, 0, none⟩), .pointer (some ⟨g7, 0, none⟩)] (fun tq => decide (at0 D tq ≠ left)) w5 ns from by
                intro tq ht W hb cs hK
                obtain rfl : cs = [.int .i64 tq] := hK
                obtain ⟨h1, h2⟩ := HNF.out tq ht
                have h3 := HNE.out tq ht
                obtain ⟨m, rfl⟩ : ∃ m : Nat, tq = m := ⟨tq.toNat, by omega⟩
                have hd := kept hb (hD m (by rw [hH.1]; omega)).out
                have ea : (⟨g, 0, none⟩ : Addr).add m = ⟨g, m, none⟩ := by unfold Addr.add; split <;> simp_all
                exact vcl (some ⟨g, 0, none⟩) y.code.length cg m left (at0 D m) g4 g7 ⟨g, 0, none⟩ W (kept hb c4) (kept hb c7) (by omega) (by rw [ea]; exact hd) (by omega))
              clear hE HI hD hnE c7 c4
              go_wp2_with fail
              refine (hasFInt A3 c3 ns _ _ _ _ hrow (by omega) HA.out).mono ?_
              rintro e w6 ⟨rfl, hb6⟩
              have hS6 := hS5.step hb6
              clear hS5 hb6 hrow HA
              cases hJ : ns.any (fun tq => decide (at0 D tq ≠ left))
              rotate_left
              · have hins := HI2 4 (by rw [hJ]; rfl)
                have z0 := hS6.cell 5 rfl
                have zf := hS6.free 5 rfl
                have hW := hS6.bel
                clear hJ HI2
                have eR : R = (4, (k : Int), (pc : Int)) := by rw [← HT.out, ← HQ.out, if_pos (by rw [hins.out]; decide), hins.out]
                subst eR
                clear HT HQ HR
                go_wp2
                refine bodyPost_ret (v := .agg #[.int .i64 4, .int .i64 k, .int .i64 pc]) (by simp [results, Try.results143, go_sem, true_and, *]) rfl ⟨rfl, (by repeat (first | exact Below.refl _ _ | assumption | (refine bl_set ?_ (by dsimp only; omega) _) | refine bl_alloc ?_ _ | refine bl_drewN ?_ _ | refine bl_drew ?_ | refine bl_step ?_ (by assumption)))⟩
              have e0 := HI2 0 (by rw [hJ]; rfl)
              clear hJ HI2
              go_wp2
              go_roundw
              case rel => exact ⟨pc + 1, by omega, by go_num, Lib.hid (by have := HQ.out; rwa [e0.out, if_neg (by simp)] at this), hS6.drop.drop.drop⟩
              case measure => simp [intOf]; omega
        · obtain rfl : pc = y.code.length := by omega
          have hQ2 : Hid (codeT l D y.code 0 = none) := Lib.hid (by have := hQ.out; rw [List.drop_length] at this; exact this.symm)
          have HT2 : Hid (funcsT l (l.drop (k + 1)) (k + 1) = R) := Lib.hid (by have := HT.out; rw [hQ2.out] at this; exact this)
          go_wp2
          go_roundw
          case rel => exact ⟨k + 1, by omega, by go_num, HT2, hS.drop.drop⟩
          case measure => simp [intOf]; omega
    · obtain rfl : k = l.length := by omega
      have eR : (0, 0, 0) = R := by have := hT.out; rwa [List.drop_length] at this
      subst eR
      have hW := hS.bel
      clear hT HR
      go_wp2
      refine bodyPost_ret (v := .agg #[.int .i64 0, .int .i64 0, .int .i64 0]) (by simp [results, Try.results143, go_sem, true_and, *]) rfl ⟨rfl, (by repeat (first | exact Below.refl _ _ | assumption | (refine bl_set ?_ (by dsimp only; omega) _) | refine bl_alloc ?_ _ | refine bl_drewN ?_ _ | refine bl_drew ?_ | refine bl_step ?_ (by assumption)))⟩
end Go.Proofs.Yteoibjacgnmnpaa.Dat
