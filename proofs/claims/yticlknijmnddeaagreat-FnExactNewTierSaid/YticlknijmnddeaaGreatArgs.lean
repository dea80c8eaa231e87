/- Arguments of function 0: in the program. -/
import Derived.Test.YticlknijmnddeaaGreatValOk
import Derived.Test.YticlknijmnddeaaGreatK3
namespace Go.Proofs.YticlknijmnddeaaGreat.Dat
open Go Go.RowKit Go.Proofs.YticlknijmnddeaaGreat.Mem
set_option linter.unusedVariables false
set_option linter.unusedSimpArgs false
theorem argCl (A B : Option Addr) (c d nt nl : Nat) (x : DValue) (g : Nat) (w : World) (h0 : w.cell? ⟨g, 0, none⟩ = some (.slice A nt c)) (h1 : w.cell? ⟨g, 1, none⟩ = some (.slice B nl d)) (hs : x.s.size ≤ maxLen) (hn : nl ≤ 1048576) :
    Calls Tryz.prog 239 #[.agg #[.int .i64 x.k, .int .i64 x.n, .string x.s], .pointer (some ⟨g, 0, none⟩)] w fun e w' => e = .returned (.bool (!valB nl 0 x)) ∧ Below w.heap.size w w' := by
  have b1 : g < w.heap.size := World.block_lt_of_cell? w _ h0
  go_enter Tryz.func239, Tryz.ntmps239
  go_wp2_with fail
  refine (valI _ _ x _ hs (by omega) (by omega) (by omega) (by omega)).mono ?_
  rintro e w' ⟨rfl, hb⟩
  go_wp2
  go_ret
  exact ⟨rfl, (by repeat (first | with_reducible exact Below.refl _ _ | with_reducible assumption | (with_reducible refine bl_set ?_ (by dsimp only; omega) _) | with_reducible refine bl_alloc ?_ _ | with_reducible refine bl_drewN ?_ _ | with_reducible refine bl_drew ?_ | with_reducible refine bl_step ?_ (by with_reducible assumption) | exact Below.refl _ _ | assumption | (refine bl_set ?_ (by dsimp only; omega) _) | refine bl_alloc ?_ _ | refine bl_drewN ?_ _ | refine bl_drew ?_ | refine bl_step ?_ (by assumption)))⟩
set_option maxHeartbeats 1000000 in
theorem idxVal (A : Option Addr) (c : Nat) (l : List DValue) (p1 : Value) (p : DValue → Bool) (w : World) (hr : (kValue).Row w A l.length l) (hl : l.length ≤ 1048576) (hp : Asks Tryz.prog kValue agg1 239 [p1] p w l) :
    Calls Tryz.prog 275 #[.slice A l.length c, .func (.func 239) #[] #[p1]] w (IsIdx p l w) := by
  go_enter Tryz.func275, Tryz.ntmps275
  go_wp2
  go_loopw [8] (fun i wr => ∃ k : Nat, k ≤ l.length ∧ i = .int .i64 k ∧ Hid (∀ j x, l[j]? = some x → j < k → p x = false) ∧ Below w.heap.size w wr) (fun i _ => l.length - (intOf i).toNat)
  case atStart => exact ⟨0, by omega, rfl, (fun j x _ h => by omega), Below.refl _ _⟩
  case round =>
    obtain ⟨k, hk, rfl, ho, hb⟩ := hrel
    by_cases hlt : k < l.length
    · obtain ⟨x, hx⟩ := get_exU l k hlt
      obtain ⟨ad, rfl, q0, q1, q2⟩ := kValue_at (hr.below hb) k x hx; have C := hp x (List.mem_of_getElem? hx) wr hb [.int .i64 x.k, .int .i64 x.n, .string x.s] (kValue_K.2 rfl); simp only [agg1] at C
      cases hq : p x
      · have HN := Lib.hid (not_step ho.out hx hq)
        rw [hq] at C
        clear hx hq
        go_wp2_with fail
        refine C.mono ?_
        rintro e w' ⟨rfl, hb2⟩
        go_wp2
        go_roundw
        case rel => exact ⟨k + 1, by omega, by go_num, HN, (by repeat (first | with_reducible exact Below.refl _ _ | with_reducible assumption | (with_reducible refine bl_set ?_ (by dsimp only; omega) _) | with_reducible refine bl_alloc ?_ _ | with_reducible refine bl_drewN ?_ _ | with_reducible refine bl_drew ?_ | with_reducible refine bl_step ?_ (by with_reducible assumption) | exact Below.refl _ _ | assumption | (refine bl_set ?_ (by dsimp only; omega) _) | refine bl_alloc ?_ _ | refine bl_drewN ?_ _ | refine bl_drew ?_ | refine bl_step ?_ (by assumption)))⟩
        case measure => simp [intOf]; omega
      · have HE := Lib.hid (any_yes (p := p) hx hq)
        rw [hq] at C
        clear hx hq
        go_wp2_with fail
        refine C.mono ?_
        rintro e w' ⟨rfl, hb2⟩
        go_wp2
        go_ret
        exact ⟨_, rfl, by rw [HE.out]; simp, (by repeat (first | with_reducible exact Below.refl _ _ | with_reducible assumption | (with_reducible refine bl_set ?_ (by dsimp only; omega) _) | with_reducible refine bl_alloc ?_ _ | with_reducible refine bl_drewN ?_ _ | with_reducible refine bl_drew ?_ | with_reducible refine bl_step ?_ (by with_reducible assumption) | exact Below.refl _ _ | assumption | (refine bl_set ?_ (by dsimp only; omega) _) | refine bl_alloc ?_ _ | refine bl_drewN ?_ _ | refine bl_drew ?_ | refine bl_step ?_ (by assumption)))⟩
    · obtain rfl : k = l.length := by omega
      have HE := Lib.hid (any_no (p := p) (fun j x h h2 => ho.out j x h h2))
      go_wp2
      go_ret
      exact ⟨_, rfl, by rw [HE.out]; simp, hb⟩
theorem hasVal (A : Option Addr) (c : Nat) (l : List DValue) (p1 : Value) (p : DValue → Bool) (w : World) (hr : (kValue).Row w A l.length l) (hl : l.length ≤ 1048576) (hp : Asks Tryz.prog kValue agg1 239 [p1] p w l) :
    Calls Tryz.prog 238 #[.slice A l.length c, .func (.func 239) #[] #[p1]] w fun e w' => e = .returned (.bool (l.any p)) ∧ Below w.heap.size w w' := by
  go_enter Tryz.func238, Tryz.ntmps238
  go_wp2_with fail
  refine (idxVal A c l _ p _ hr hl hp).mono ?_
  rintro e w' ⟨r, rfl, he, hb⟩
  have HE := Lib.hid he
  clear he
  go_wp2
  go_ret
  exact ⟨ret_bool HE.out, (by repeat (first | with_reducible exact Below.refl _ _ | with_reducible assumption | (with_reducible refine bl_set ?_ (by dsimp only; omega) _) | with_reducible refine bl_alloc ?_ _ | with_reducible refine bl_drewN ?_ _ | with_reducible refine bl_drew ?_ | with_reducible refine bl_step ?_ (by with_reducible assumption) | exact Below.refl _ _ | assumption | (refine bl_set ?_ (by dsimp only; omega) _) | refine bl_alloc ?_ _ | refine bl_drewN ?_ _ | refine bl_drew ?_ | refine bl_step ?_ (by assumption)))⟩
def argsB (y : DFunc) (n : Nat) (args : List DValue) : Bool := decide ((args.length : Int) = y.params) && !(args.any fun v => !valB n 0 v)
set_option maxHeartbeats 1000000 in
theorem argsI (A B D : Option Addr) (c d e0 : Nat) (t : List ByteArray) (l : List DFunc) (y : DFunc) (args : List DValue) (w : World) (h : HasMod A B t l w) (hy : l[0]? = some y) (hr : kValue.Row w D args.length args) (hm : args.length ≤ 1048576) (hs : ∀ x ∈ args, x.s.size ≤ maxLen) :
    Calls Tryz.prog 186 #[.agg #[.slice A t.length c, .slice B l.length d], .slice D args.length e0] w fun e w' => e = .returned (.bool (argsB y l.length args)) ∧ Below w.heap.size w w' := by
  have hl := h.hm
  have hl0 : 0 < l.length := (List.getElem?_eq_some_iff.1 hy).1
  obtain ⟨ad, A2, c2, rfl, q0, q1, q2, _, _⟩ := kFunc_at h.hr 0 y hy
  rw [Nat.zero_mul, show ad.add 0 = ad by simp [Addr.add]] at q0
  have hS := (St.start w).made (.cells #[.slice A t.length c, .slice (some ad) l.length d] 37 (0, 0))
  have q0' := kept hS.bel q0
  by_cases hp : (args.length : Int) = y.params
  rotate_left
  · have E := Lib.hid (show argsB y l.length args = false by simp [argsB, hp])
    have hp2 : ((args.length : Int) == y.params) = false := by simpa using hp
    clear hp hy
    go_enter Tryz.func186, Tryz.ntmps186
    go_wp2

    go_ret
    exact ⟨ret_bool E.out.symm, (by repeat (first | with_reducible exact Below.refl _ _ | with_reducible assumption | (with_reducible refine bl_set ?_ (by dsimp only; omega) _) | with_reducible refine bl_alloc ?_ _ | with_reducible refine bl_drewN ?_ _ | with_reducible refine bl_drew ?_ | with_reducible refine bl_step ?_ (by with_reducible assumption) | exact Below.refl _ _ | assumption | (refine bl_set ?_ (by dsimp only; omega) _) | refine bl_alloc ?_ _ | refine bl_drewN ?_ _ | refine bl_drew ?_ | refine bl_step ?_ (by assumption)))⟩
  · have E := Lib.hid (show argsB y l.length args = !(args.any fun v => !valB l.length 0 v) by simp [argsB, hp])
    have hp2 : ((args.length : Int) == y.params) = true := by simpa using hp
    have HA := Lib.hid (show Asks Tryz.prog kValue agg1 239 [.pointer (some ⟨w.heap.size, 0, none⟩)] (fun v => !valB l.length 0 v) (w.alloc (.cells #[.slice A t.length c, .slice (some ad) l.length d] 37 (0, 0))) args from fun x hx W hb cs hK => by
      obtain rfl := kValue_K.1 hK
      exact argCl A (some ad) c d t.length l.length x w.heap.size W ((hS.step hb).cell 0 rfl 0) ((hS.step hb).cell 0 rfl 1) (hs x hx) hl)
    clear hp hy
    go_enter Tryz.func186, Tryz.ntmps186
    go_wp2_with fail
    refine (hasVal D e0 args _ (fun v => !valB l.length 0 v) _ (hr.below hS.bel) hm HA.out).mono ?_
    rintro e w' ⟨rfl, hb⟩
    go_wp2
    go_ret
    exact ⟨ret_bool (by rw [E.out]), (by repeat (first | with_reducible exact Below.refl _ _ | with_reducible assumption | (with_reducible refine bl_set ?_ (by dsimp only; omega) _) | with_reducible refine bl_alloc ?_ _ | with_reducible refine bl_drewN ?_ _ | with_reducible refine bl_drew ?_ | with_reducible refine bl_step ?_ (by with_reducible assumption) | exact Below.refl _ _ | assumption | (refine bl_set ?_ (by dsimp only; omega) _) | refine bl_alloc ?_ _ | refine bl_drewN ?_ _ | refine bl_drew ?_ | refine bl_step ?_ (by assumption)))⟩
end Go.Proofs.YticlknijmnddeaaGreat.Dat
