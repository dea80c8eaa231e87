/- PlanOf, plainly; and what its walk asks. -/
import Derived.Test.YtpjdecneeakkeaaK5
import Derived.Test.YtpjdecneeakkeaaK6
import Derived.Test.YtpjdecneeakkeaaK3
import Derived.Test.YtpjdecneeakkeaaK4
import Derived.Test.YtpjdecneeakkeaaAppE
namespace Go.Proofs.Ytpjdecneeakkeaa.Dat
open Go Go.RowKit Go.Proofs.Ytpjdecneeakkeaa.Mem
set_option linter.unusedVariables false
set_option linter.unusedSimpArgs false
def eqSp (b : DSpec) (f p k : Int) : Bool := decide (b.fn = f) && (decide (b.pc = p) && decide (b.kind = k))
def kindOf (l : List DFunc) (q : DSite) : Int := match insO l q.fn q.pc with
  | some x => if x.op = 23 then 2 else 1
  | none => 1
def specOf (l : List DFunc) (q : DSite) : DSpec := ⟨q.fn, q.pc, kindOf l q, q.target⟩
def blackB (black : List DSpec) (f p k : Int) : Bool := black.any fun b => eqSp b f p k
def takeB (l : List DFunc) (black : List DSpec) (q : DSite) : Bool := decide (q.seen = 1) && (!(blackB black q.fn q.pc (kindOf l q)) && specB l (specOf l q))
def takeL (l : List DFunc) (black : List DSpec) (q : DSite) : List DSpec := if takeB l black q then [specOf l q] else []
def planS (l : List DFunc) (sites : List DSite) (black : List DSpec) : List DSpec := sites.flatMap (takeL l black)
def planOfV (t : List ByteArray) (l : List DFunc) (sites : List DSite) (black : List DSpec) (lay : Int) (bare : Bool) : DPlan := if profOkB t l sites = true ∧ btw lay 0 3 = true then ⟨planS l sites black, lay, bare⟩ else ⟨[], 0, false⟩
theorem planS_step {l : List DFunc} {sites : List DSite} {black : List DSpec} {k : Nat} {q : DSite} (h : sites[k]? = some q) : planS l (sites.take (k + 1)) black = planS l (sites.take k) black ++ takeL l black q := by
  unfold planS
  rw [List.take_add_one, h, List.flatMap_append]
  simp
theorem takeL_len (l : List DFunc) (black : List DSpec) (q : DSite) : (takeL l black q).length ≤ 1 := by
  unfold takeL
  split <;> simp
theorem planS_len (l : List DFunc) (black : List DSpec) : ∀ sites : List DSite, (planS l sites black).length ≤ sites.length
  | [] => by simp [planS]
  | q :: r => by
    have h1 := planS_len l black r
    have h2 := takeL_len l black q
    unfold planS at h1 ⊢
    rw [List.flatMap_cons, List.length_append, List.length_cons]
    omega
theorem prof_site {l : List DFunc} {p : List DSite} (h : profB l p = true) {k : Nat} {s : DSite} (hs : p[k]? = some s) : siteB l s = true := by
  unfold profB at h
  rw [Bool.and_eq_true, List.all_eq_true] at h
  have h1 := h.2 k (List.mem_range.2 (List.getElem?_eq_some_iff.1 hs).1)
  rw [profAt_of hs, Bool.and_eq_true] at h1
  exact h1.1
theorem profOk_prof {t : List ByteArray} {l : List DFunc} {p : List DSite} (h : profOkB t l p = true) : profB l p = true := by
  unfold profOkB at h
  rw [Bool.and_eq_true] at h
  exact h.2
/-- What a site that is ok stands at. -/
theorem site_at {l : List DFunc} {s : DSite} (h : siteB l s = true) : ∃ (k j : Nat) (y : DFunc) (x : DIns), s.fn = k ∧ s.pc = j ∧ l[k]? = some y ∧ y.code[j]? = some x ∧ siteX l.length x s = true ∧ kindOf l s = if x.op = 23 then 2 else 1 := by
  unfold siteB at h
  cases ho : insO l s.fn s.pc with
  | none => rw [ho] at h; simp [siteP] at h
  | some x =>
    rw [ho] at h
    obtain ⟨k, j, y, h1, h2, h3, h4⟩ := insO_some ho
    exact ⟨k, j, y, x, h1, h2, h3, h4, h, by unfold kindOf; rw [ho]⟩
theorem siteX_tgt {n : Int} {x : DIns} {s : DSite} (h : siteX n x s = true) (hx : ¬ x.op = 23) : s.target = 0 := by
  unfold siteX at h
  rw [if_neg hx] at h
  simp at h
  exact h.2
theorem profOkI' (A B D : Option Addr) (c d e0 : Nat) (t : List ByteArray) (l : List DFunc) (p : List DSite) (w : World) (h : HasMod A B t l w) (hr : kSite.Row w D p.length p) (hp : p.length ≤ 1048576) {r : Bool} (hq : profOkB t l p = r) :
    Calls Try.prog 132 #[.agg #[.slice A t.length c, .slice B l.length d], .slice D p.length e0] w fun e w' => e = .returned (.bool r) ∧ Below w.heap.size w w' := hq ▸ profOkI A B D c d e0 t l p w h hr hp
theorem profOk3' (A B D : Option Addr) (c d e0 : Nat) (t : List ByteArray) (l : List DFunc) (p : List DSite) (w : World) (h : HasMod A B t l w) (hr : kSite.Row w D p.length p) (hp : p.length ≤ 1048576) {r : Bool} (hq : profOkB t l p = r) :
    Calls Try.prog 127 #[.agg #[.slice A t.length c, .slice B l.length d], .slice D p.length e0] w fun e w' => e = .returned (.bool r) ∧ Below w.heap.size w w' := hq ▸ profOk3 A B D c d e0 t l p w h hr hp
theorem planCl (b : DSpec) (f p k u : Int) (g : Nat) (w : World) (h0 : w.cell? ⟨g, 0, none⟩ = some (.int .i64 f)) (h1 : w.cell? ⟨g, 1, none⟩ = some (.int .i64 p)) (h2 : w.cell? ⟨g, 2, none⟩ = some (.int .i64 k)) {r : Bool} (hr : eqSp b f p k = r) :
    Calls Try.prog 135 #[.agg #[.int .i64 b.fn, .int .i64 b.pc, .int .i64 b.kind, .int .i64 b.target], .pointer (some ⟨g, 0, none⟩)] w fun e w' => e = .returned (.bool r) ∧ Below w.heap.size w w' := by
  have b1 : g < w.heap.size := World.block_lt_of_cell? w _ h0
  subst hr
  obtain ⟨bf, bp, bk, bt⟩ := b
  unfold eqSp
  by_cases c1 : bf = f
  · by_cases c2 : bp = p
    · by_cases c3 : bk = k
      · subst c1 c2 c3
        go_enter Try.func135, Try.ntmps135
        go_wp2
        go_ret
        exact ⟨ret_bool (by simp), (by repeat (first | with_reducible exact Below.refl _ _ | with_reducible assumption | (with_reducible refine bl_set ?_ (by dsimp only; omega) _) | with_reducible refine bl_alloc ?_ _ | with_reducible refine bl_drewN ?_ _ | with_reducible refine bl_drew ?_ | with_reducible refine bl_step ?_ (by with_reducible assumption) | exact Below.refl _ _ | assumption | (refine bl_set ?_ (by dsimp only; omega) _) | refine bl_alloc ?_ _ | refine bl_drewN ?_ _ | refine bl_drew ?_ | refine bl_step ?_ (by assumption)))⟩
      · subst c1 c2
        go_enter Try.func135, Try.ntmps135
        go_wp2
        go_ret
        exact ⟨ret_bool (by simp [c3]), (by repeat (first | with_reducible exact Below.refl _ _ | with_reducible assumption | (with_reducible refine bl_set ?_ (by dsimp only; omega) _) | with_reducible refine bl_alloc ?_ _ | with_reducible refine bl_drewN ?_ _ | with_reducible refine bl_drew ?_ | with_reducible refine bl_step ?_ (by with_reducible assumption) | exact Below.refl _ _ | assumption | (refine bl_set ?_ (by dsimp only; omega) _) | refine bl_alloc ?_ _ | refine bl_drewN ?_ _ | refine bl_drew ?_ | refine bl_step ?_ (by assumption)))⟩
    · subst c1
      go_enter Try.func135, Try.ntmps135
      go_wp2
      go_ret
      exact ⟨ret_bool (by simp [c2]), (by repeat (first | with_reducible exact Below.refl _ _ | with_reducible assumption | (with_reducible refine bl_set ?_ (by dsimp only; omega) _) | with_reducible refine bl_alloc ?_ _ | with_reducible refine bl_drewN ?_ _ | with_reducible refine bl_drew ?_ | with_reducible refine bl_step ?_ (by with_reducible assumption) | exact Below.refl _ _ | assumption | (refine bl_set ?_ (by dsimp only; omega) _) | refine bl_alloc ?_ _ | refine bl_drewN ?_ _ | refine bl_drew ?_ | refine bl_step ?_ (by assumption)))⟩
  · go_enter Try.func135, Try.ntmps135
    go_wp2
    go_ret
    exact ⟨ret_bool (by simp [c1]), (by repeat (first | with_reducible exact Below.refl _ _ | with_reducible assumption | (with_reducible refine bl_set ?_ (by dsimp only; omega) _) | with_reducible refine bl_alloc ?_ _ | with_reducible refine bl_drewN ?_ _ | with_reducible refine bl_drew ?_ | with_reducible refine bl_step ?_ (by with_reducible assumption) | exact Below.refl _ _ | assumption | (refine bl_set ?_ (by dsimp only; omega) _) | refine bl_alloc ?_ _ | refine bl_drewN ?_ _ | refine bl_drew ?_ | refine bl_step ?_ (by assumption)))⟩
set_option maxHeartbeats 1000000 in
theorem idxSpec (A : Option Addr) (c : Nat) (l : List DSpec) (p1 : Value) (p : DSpec → Bool) (w : World) (hr : (kSpec).Row w A l.length l) (hl : l.length ≤ 1048576) (hp : Asks Try.prog kSpec agg1 135 [p1] p w l) :
    Calls Try.prog 203 #[.slice A l.length c, .func (.func 135) #[] #[p1]] w (IsIdx p l w) := by
  go_enter Try.func203, Try.ntmps203
  go_wp2
  go_loopw [8] (fun i wr => ∃ k : Nat, k ≤ l.length ∧ i = .int .i64 k ∧ Hid (∀ j x, l[j]? = some x → j < k → p x = false) ∧ Below w.heap.size w wr) (fun i _ => l.length - (intOf i).toNat)
  case atStart => exact ⟨0, by omega, rfl, (fun j x _ h => by omega), Below.refl _ _⟩
  case round =>
    obtain ⟨k, hk, rfl, ho, hb⟩ := hrel
    by_cases hlt : k < l.length
    · obtain ⟨x, hx⟩ := get_exU l k hlt
      obtain ⟨ad, rfl, q0, q1, q2, q3⟩ := kSpec_at (hr.below hb) k x hx; have C := hp x (List.mem_of_getElem? hx) wr hb [.int .i64 x.fn, .int .i64 x.pc, .int .i64 x.kind, .int .i64 x.target] (kSpec_K.2 rfl); simp only [agg1] at C
      cases hq : p x
      · have HN := Lib.hid (not_step ho.out hx hq)
        rw [hq] at C
        clear hx hq
        go_wp2_with fail
        refine C.mono ?_
        rintro e w' ⟨rfl, hb2⟩
        go_wp2
        go_roundw
        case rel => exact ⟨k + 1, by omega, by go_num, HN, (by repeat (first | with_reducible exact Below.refl _ _ | with_reducible assumption | (with_reducible refine bl_set ?_ (by dsimp only; omega) _) | with_reducible refine bl_alloc ?_ _ | with_reducible refine bl_drewN ?_ _ | with_reducible refine bl_drew ?_ | with_reducible refine bl_step ?_ (by with_reducible assumption) | exact Below.refl _ _ | assumption | (refine bl_set ?_ (by dsimp only; omega) _) | refine bl_alloc ?_ _ | refine bl_drewN ?_ _ | refine bl_drew ?_ | refine bl_step ?_ (by assumption)))⟩
        case measure => simp [intOf]; omega
      · have HE := Lib.hid (any_yes (p := p) hx hq)
        rw [hq] at C
        clear hx hq
        go_wp2_with fail
        refine C.mono ?_
        rintro e w' ⟨rfl, hb2⟩
        go_wp2
        go_ret
        exact ⟨_, rfl, by rw [HE.out]; simp, (by repeat (first | with_reducible exact Below.refl _ _ | with_reducible assumption | (with_reducible refine bl_set ?_ (by dsimp only; omega) _) | with_reducible refine bl_alloc ?_ _ | with_reducible refine bl_drewN ?_ _ | with_reducible refine bl_drew ?_ | with_reducible refine bl_step ?_ (by with_reducible assumption) | exact Below.refl _ _ | assumption | (refine bl_set ?_ (by dsimp only; omega) _) | refine bl_alloc ?_ _ | refine bl_drewN ?_ _ | refine bl_drew ?_ | refine bl_step ?_ (by assumption)))⟩
    · obtain rfl : k = l.length := by omega
      have HE := Lib.hid (any_no (p := p) (fun j x h h2 => ho.out j x h h2))
      go_wp2
      go_ret
      exact ⟨_, rfl, by rw [HE.out]; simp, hb⟩
theorem hasSpec (A : Option Addr) (c : Nat) (l : List DSpec) (p1 : Value) (p : DSpec → Bool) (w : World) (hr : (kSpec).Row w A l.length l) (hl : l.length ≤ 1048576) (hp : Asks Try.prog kSpec agg1 135 [p1] p w l) :
    Calls Try.prog 134 #[.slice A l.length c, .func (.func 135) #[] #[p1]] w fun e w' => e = .returned (.bool (l.any p)) ∧ Below w.heap.size w w' := by
  go_enter Try.func134, Try.ntmps134
  go_wp2_with fail
  refine (idxSpec A c l _ p _ hr hl hp).mono ?_
  rintro e w' ⟨r, rfl, he, hb⟩
  have HE := Lib.hid he
  clear he
  go_wp2
  go_ret
  exact ⟨ret_bool HE.out, (by repeat (first | with_reducible exact Below.refl _ _ | with_reducible assumption | (with_reducible refine bl_set ?_ (by dsimp only; omega) _) | with_reducible refine bl_alloc ?_ _ | with_reducible refine bl_drewN ?_ _ | with_reducible refine bl_drew ?_ | with_reducible refine bl_step ?_ (by with_reducible assumption) | exact Below.refl _ _ | assumption | (refine bl_set ?_ (by dsimp only; omega) _) | refine bl_alloc ?_ _ | refine bl_drewN ?_ _ | refine bl_drew ?_ | refine bl_step ?_ (by assumption)))⟩
theorem specI' (A B : Option Addr) (c d : Nat) (t : List ByteArray) (l : List DFunc) (a b e f : Int) (w : World) (h : HasMod A B t l w) {r : Bool} (hr : specB l ⟨a, b, e, f⟩ = r) :
    Calls Try.prog 136 #[.agg #[.slice A t.length c, .slice B l.length d], .agg #[.int .i64 a, .int .i64 b, .int .i64 e, .int .i64 f]] w fun e w' => e = .returned (.bool r) ∧ Below w.heap.size w w' := specI A B c d t l ⟨a, b, e, f⟩ w h hr
theorem spec9' (A B : Option Addr) (c d : Nat) (t : List ByteArray) (l : List DFunc) (a b e f : Int) (w : World) (h : HasMod A B t l w) {r : Bool} (hr : specB l ⟨a, b, e, f⟩ = r) :
    Calls Try.prog 202 #[.agg #[.slice A t.length c, .slice B l.length d], .agg #[.int .i64 a, .int .i64 b, .int .i64 e, .int .i64 f]] w fun e w' => e = .returned (.bool r) ∧ Below w.heap.size w w' := spec9 A B c d t l ⟨a, b, e, f⟩ w h hr
/-- The answer. -/
def PlanAns (w : World) (X : DPlan) (en : Ending) (w' : World) : Prop := ∃ (v0 : Value) (F0 : List Nat), en = .returned (.agg #[v0, .int .i64 X.lay, .bool X.bare]) ∧ St w [Res.own kSpec 167 v0 X.specs F0] w'
end Go.Proofs.Ytpjdecneeakkeaa.Dat
