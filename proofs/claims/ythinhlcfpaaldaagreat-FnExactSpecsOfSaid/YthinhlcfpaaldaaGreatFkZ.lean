/- The closure of fastOk. -/
import Derived.Test.YthinhlcfpaaldaaGreatFkY
namespace Go.Proofs.YthinhlcfpaaldaaGreat.Dat
open Go Go.RowKit Go.Proofs.YthinhlcfpaaldaaGreat.Mem
set_option linter.unusedVariables false
set_option linter.unusedSimpArgs false
set_option maxHeartbeats 1000000
set_option maxRecDepth 100000
set_option maxHeartbeats 1000000 in
theorem idxEx (A : Option Addr) (c : Nat) (l : List DExit) (p1 p2 p3 : Value) (p : DExit → Bool) (w : World) (hr : (kExit).Row w A l.length l) (hl : l.length ≤ 1048576) (hp : Asks Tryz.prog kExit agg1 220 [p1, p2, p3] p w l) :
    Calls Tryz.prog 294 #[.slice A l.length c, .func (.func 220) #[] #[p1, p2, p3]] w (IsIdx p l w) := by
  go_enter Tryz.func294, Tryz.ntmps294
  go_wp2
  go_loopw [8] (fun i wr => ∃ k : Nat, k ≤ l.length ∧ i = .int .i64 k ∧ Hid (∀ j x, l[j]? = some x → j < k → p x = false) ∧ Below w.heap.size w wr) (fun i _ => l.length - (intOf i).toNat)
  case atStart => exact ⟨0, by omega, rfl, (fun j x _ h => by omega), Below.refl _ _⟩
  case round =>
    obtain ⟨k, hk, rfl, ho, hb⟩ := hrel
    by_cases hlt : k < l.length
    · obtain ⟨x, hx⟩ := get_exU l k hlt
      obtain ⟨ad, AF, AR, cf, cr, rfl, q0, q1, q2, q3, q4, q5, q6, hl5, hr5, hl6, hr6⟩ := kExit_at (hr.below hb) k x hx; have C := hp x (List.mem_of_getElem? hx) wr hb [.int .i64 x.kind, .int .i64 x.spec.fn, .int .i64 x.spec.pc, .int .i64 x.spec.kind, .int .i64 x.spec.target, .slice AF x.frames.length cf, .slice AR x.recs.length cr] (kExit_K.2 ⟨AF, AR, cf, cr, rfl, hl5, hr5, hl6, hr6⟩); simp only [agg1] at C
      cases hq : p x
      · have HN := Lib.hid (not_step ho.out hx hq)
        rw [hq] at C
        clear hx hq
        go_wp2_with fail
        refine C.mono ?_
        rintro e w' ⟨rfl, hb2⟩
        go_wp2
        go_roundw
        case rel => exact ⟨k + 1, by omega, by go_num, HN, bl9⟩
        case measure => simp [intOf]; omega
      · have HE := Lib.hid (any_yes (p := p) hx hq)
        rw [hq] at C
        clear hx hq
        go_wp2_with fail
        refine C.mono ?_
        rintro e w' ⟨rfl, hb2⟩
        go_wp2
        go_ret
        exact ⟨_, rfl, by rw [HE.out]; simp, bl9⟩
    · obtain rfl : k = l.length := by omega
      have HE := Lib.hid (any_no (p := p) (fun j x h h2 => ho.out j x h h2))
      go_wp2
      go_ret
      exact ⟨_, rfl, by rw [HE.out]; simp, hb⟩
theorem hasEx (A : Option Addr) (c : Nat) (l : List DExit) (p1 p2 p3 : Value) (p : DExit → Bool) (w : World) (hr : (kExit).Row w A l.length l) (hl : l.length ≤ 1048576) (hp : Asks Tryz.prog kExit agg1 220 [p1, p2, p3] p w l) :
    Calls Tryz.prog 219 #[.slice A l.length c, .func (.func 220) #[] #[p1, p2, p3]] w fun e w' => e = .returned (.bool (l.any p)) ∧ Below w.heap.size w w' := by
  go_enter Tryz.func219, Tryz.ntmps219
  go_wp2_with fail
  refine (idxEx A c l _ _ _ p _ hr hl hp).mono ?_
  rintro e w' ⟨r, rfl, he, hb⟩
  have HE := Lib.hid he
  clear he
  go_wp2
  go_ret
  exact ⟨ret_bool HE.out, bl9⟩
set_option maxHeartbeats 8000000 in
set_option maxRecDepth 100000 in
theorem exCl (A B A4 A5 AF AR D : Option Addr) (c0 d0 c4 c5 cf cr e0 g1 g2 g3 : Nat) (t : List ByteArray) (l : List DFunc) (c : DFast) (x : DExit) (W : World) (q10 : W.cell? ⟨g1, 0, none⟩ = some (.int .i64 c.fn)) (q11 : W.cell? ⟨g1, 1, none⟩ = some (.int .i64 c.entry)) (q12 : W.cell? ⟨g1, 2, none⟩ = some (.int .i64 c.vals)) (q13 : W.cell? ⟨g1, 3, none⟩ = some (.int .i64 c.nums)) (q14 : W.cell? ⟨g1, 4, none⟩ = some (.slice A4 c.ops.length c4)) (q15 : W.cell? ⟨g1, 5, none⟩ = some (.slice A5 c.exits.length c5)) (q20 : W.cell? ⟨g2, 0, none⟩ = some (.slice A t.length c0)) (q21 : W.cell? ⟨g2, 1, none⟩ = some (.slice B l.length d0)) (q30 : W.cell? ⟨g3, 0, none⟩ = some (.slice D l.length e0)) (h : HasMod A B t l W) (hfit : ModFit t l) (hD : kHgh.Row W D l.length (highsL l)) (r5 : kExFrame.Row W AF x.frames.length x.frames) (r6 : kExRec.Row W AR x.recs.length x.recs) (hv : ∀ s ∈ srcsL x, s.v.s.size ≤ maxLen) (hn : (srcsL x).length ≤ 1048576) (m6 : x.recs.length ≤ 1048576) (h1 : 0 ≤ c.vals) (h2 : c.vals ≤ 400) (h3 : 0 ≤ c.nums) (h4 : c.nums ≤ 400) :
    Calls Tryz.prog 220 #[.agg #[.int .i64 x.kind, .int .i64 x.spec.fn, .int .i64 x.spec.pc, .int .i64 x.spec.kind, .int .i64 x.spec.target, .slice AF x.frames.length cf, .slice AR x.recs.length cr], (.pointer (some ⟨g1, 0, none⟩)), (.pointer (some ⟨g2, 0, none⟩)), (.pointer (some ⟨g3, 0, none⟩))] W fun e w' => e = .returned (.bool (!(exitB l c x))) ∧ Below W.heap.size W w' := by
  have hS := (St.start W).made (.cells #[.int .i64 x.kind, .int .i64 x.spec.fn, .int .i64 x.spec.pc, .int .i64 x.spec.kind, .int .i64 x.spec.target, .slice AF x.frames.length cf, .slice AR x.recs.length cr] 168 (0, 0))
  have b10 := kept hS.bel q10
  have b11 := kept hS.bel q11
  have b12 := kept hS.bel q12
  have b13 := kept hS.bel q13
  have b14 := kept hS.bel q14
  have b15 := kept hS.bel q15
  have b20 := kept hS.bel q20
  have b21 := kept hS.bel q21
  have b30 := kept hS.bel q30
  clear q10 q11 q12 q13 q14 q15 q20 q21 q30
  have hH := h.below hS.bel
  go_enter Tryz.func220, Tryz.ntmps220
  go_wp2_with fail
  refine (exitI A B A4 A5 AF AR D c0 d0 c4 c5 cf cr e0 t l c x _ hH hfit (hD.below hS.bel) (r5.below hS.bel) (r6.below hS.bel) hv hn m6 h1 h2 h3 h4).mono ?_
  rintro e w' ⟨rfl, hb⟩
  have hz := hS.step hb
  go_wp2
  go_ret
  exact ⟨rfl, hz.bel⟩
end Go.Proofs.YthinhlcfpaaldaaGreat.Dat
