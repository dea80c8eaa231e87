/- Whether a module is good: Verify finds nothing. DepthsOf. -/
import Derived.Test.YteoibjacgnmnpaaEqT
namespace Go.Proofs.Yteoibjacgnmnpaa.Dat
open Go Go.RowKit Go.Proofs.Yteoibjacgnmnpaa.Mem
set_option linter.unusedVariables false
set_option linter.unusedSimpArgs false
/-- A module that is handed in, of a size that the laws let by. -/
structure HasMod (A B : Option Addr) (t : List ByteArray) (l : List DFunc) (w : World) : Prop where
  ht : Knd.str.Row w A t.length t
  hr : kFunc.Row w B l.length l
  htm : t.length ≤ 1048576
  hm : l.length ≤ 1048576
  htv : ∀ x ∈ t, x.size ≤ maxLen
  hv : ∀ x ∈ l, x.code.length ≤ 1048576 ∧ -9223372036854775808 ≤ x.locals ∧ x.locals ≤ 9223372036854775807
theorem HasMod.below {A B : Option Addr} {t : List ByteArray} {l : List DFunc} {w w' : World} (h : HasMod A B t l w) (hb : Below w.heap.size w w') : HasMod A B t l w' := ⟨h.ht.below hb, h.hr.below hb, h.htm, h.hm, h.htv, h.hv⟩
def isGoodB (t : List ByteArray) (l : List DFunc) : Bool := decide (verL t l = (0, 0, 0))
theorem codeT_fst {l : List DFunc} {d : List Int} : ∀ (c : List DIns) (pc : Nat) (r : Int × Nat), codeT l d c pc = some r → r.1 ≠ 0
  | [], _, r, h => by simp [codeT] at h
  | x :: c, pc, r, h => by
    unfold codeT at h
    split at h
    · rename_i h1
      cases h
      exact h1
    · exact codeT_fst c (pc + 1) r h
theorem funcsT_code {l : List DFunc} : ∀ (m : List DFunc) (f : Nat), (funcsT l m f).1 = 0 → funcsT l m f = (0, 0, 0)
  | [], _, _ => rfl
  | x :: m, f, h => by
    unfold funcsT at h ⊢
    split at h
    · rename_i r hr
      exact absurd h (codeT_fst _ _ _ hr)
    · rename_i hr
      exact funcsT_code m (f + 1) h
theorem verL_code {t : List ByteArray} {l : List DFunc} (h : (verL t l).1 = 0) : verL t l = (0, 0, 0) := by
  unfold verL at h ⊢
  split at h
  · rename_i h1
    rw [if_pos h1]
    exact funcsT_code l 0 h
  · simp at h
theorem isGood_mod {t : List ByteArray} {l : List DFunc} (h : isGoodB t l = true) : modB t l = true := by
  have h1 := of_decide_eq_true h
  unfold verL at h1
  split at h1
  · assumption
  · simp at h1
theorem codeT_none {l : List DFunc} {d : List Int} : ∀ (c : List DIns) (pc : Nat), codeT l d c pc = none → ∀ (j : Nat) (x : DIns), c[j]? = some x → insT l d x (pc + j) = 0
  | [], _, _, j, x, hx => by simp at hx
  | y :: c, pc, h, j, x, hx => by
    unfold codeT at h
    split at h
    · simp at h
    · rename_i h1
      cases j with
      | zero =>
        have e : y = x := by simpa using hx
        subst e
        simpa using h1
      | succ j =>
        have := codeT_none c (pc + 1) h j x (by simpa using hx)
        rwa [show pc + 1 + j = pc + (j + 1) by omega] at this
theorem funcsT_none {l : List DFunc} : ∀ (m : List DFunc) (f : Nat), funcsT l m f = (0, 0, 0) → ∀ x ∈ m, codeT l (depthsL l x.code) x.code 0 = none
  | [], _, _, x, hx => by simp at hx
  | y :: m, f, h, x, hx => by
    unfold funcsT at h
    split at h
    · rename_i r hr
      exact absurd (congrArg (·.1) h) (codeT_fst _ _ _ hr)
    · rename_i hr
      rcases List.mem_cons.1 hx with rfl | hx
      · exact hr
      · exact funcsT_none m (f + 1) h x hx
/-- What an instruction that is come to has, in a good module. -/
theorem good_ins {t : List ByteArray} {l : List DFunc} (h : isGoodB t l = true) {y : DFunc} (hy : y ∈ l) {pc : Nat} {x : DIns} (hx : y.code[pc]? = some x) (h0 : 0 ≤ at0 (depthsL l y.code) pc) :
    canB l x (at0 (depthsL l y.code) pc) = true ∧ ∀ q ∈ nexts x pc, q ≠ (y.code.length : Int) ∧ at0 (depthsL l y.code) q = leftOf l x (at0 (depthsL l y.code) pc) := by
  have hm := modFit (isGood_mod h)
  have h1 := of_decide_eq_true h
  unfold verL at h1
  rw [if_pos (isGood_mod h)] at h1
  have h2 := codeT_none _ _ (funcsT_none l 0 h1 y hy) pc x hx
  rw [Nat.zero_add] at h2
  unfold insT at h2
  rw [if_neg (by omega), (hm.hgt hy).1] at h2
  split at h2
  · simp at h2
  rename_i h3
  have h3 : canB l x (at0 (depthsL l y.code) pc) = true := by simpa using h3
  split at h2
  · simp at h2
  rename_i h4
  split at h2
  · simp at h2
  rename_i h5
  refine ⟨h3, fun q hq => ⟨fun e => ?_, ?_⟩⟩
  · exact h4 (List.any_eq_true.2 ⟨q, hq, by simp [e]⟩)
  · have h6 : ∀ z, z ∈ nexts x pc → at0 (depthsL l y.code) z = leftOf l x (at0 (depthsL l y.code) pc) := by simpa using h5
    exact h6 q hq
set_option maxHeartbeats 1000000 in
theorem isGoodI (A B : Option Addr) (c d : Nat) (t : List ByteArray) (l : List DFunc) (w : World) (h : HasMod A B t l w) {r : Bool} (hg : isGoodB t l = r) :
    Calls Try.prog 88 #[.agg #[.slice A t.length c, .slice B l.length d]] w fun e w' => e = .returned (.bool r) ∧ Below w.heap.size w w' := by
  have C := fun w' (hb : Below w.heap.size w w') => verIx A B c d t l w' (h.ht.below hb) (h.hr.below hb) h.htm h.hm h.htv h.hv
  cases r
  · have hg' := of_decide_eq_false hg
    generalize verL t l = v at C hg'
    obtain ⟨a, b, k⟩ := v
    simp only [Prod.mk.injEq] at hg'
    go_enter Try.func88, Try.ntmps88
    go_wp2_with fail
    refine (C _ (by repeat (first | exact Below.refl _ _ | assumption | (refine bl_set ?_ (by dsimp only; omega) _) | refine bl_alloc ?_ _ | refine bl_drewN ?_ _ | refine bl_drew ?_ | refine bl_step ?_ (by assumption)))).mono ?_
    rintro e w' ⟨rfl, hb⟩
    go_wp2
    all_goals (go_ret; exact ⟨rfl, (by repeat (first | exact Below.refl _ _ | assumption | (refine bl_set ?_ (by dsimp only; omega) _) | refine bl_alloc ?_ _ | refine bl_drewN ?_ _ | refine bl_drew ?_ | refine bl_step ?_ (by assumption)))⟩)
  · rw [of_decide_eq_true hg] at C
    go_enter Try.func88, Try.ntmps88
    go_wp2_with fail
    refine (C _ (by repeat (first | exact Below.refl _ _ | assumption | (refine bl_set ?_ (by dsimp only; omega) _) | refine bl_alloc ?_ _ | refine bl_drewN ?_ _ | refine bl_drew ?_ | refine bl_step ?_ (by assumption)))).mono ?_
    rintro e w' ⟨rfl, hb⟩
    go_wp2
    go_ret
    exact ⟨rfl, (by repeat (first | exact Below.refl _ _ | assumption | (refine bl_set ?_ (by dsimp only; omega) _) | refine bl_alloc ?_ _ | refine bl_drewN ?_ _ | refine bl_drew ?_ | refine bl_step ?_ (by assumption)))⟩
/-- A field of a struct that lies in no memory. -/
theorem wp_fieldv {P : Program} {ops : Array Oper} {rest : List Oper} {o : Oper} {a : Act} {Q : Exit → Act → World → Prop} {W : World} (hgd : o.guard = none) (t : TypeId) (x : Operand) (k : Nat) (ho : o.op = .field t x k) (v u : Value) (hx : a.eval x = v) (hr : ∀ W, (Instr.field t v k).run P W = .ok u W)
    (h : wpList P ops Q rest (a.put o.dst u) W) : wpList P ops Q (o :: rest) a W := by
  have hrun : (execOp a.eval o).run P W = .ok (.value u) W := by simp [execOp, ho, hx, hr]
  refine wpList_plain hgd fun K hK => ?_
  unfold Oper.wp
  rw [hrun]
  exact hK _ _ h
theorem fieldTrouble0 (a b c : Int) (W : World) : (Instr.field 162 (.agg #[.int .i64 a, .int .i64 b, .int .i64 c]) 0).run Try.prog W = .ok (.int .i64 a) W := by kernel_rfl
set_option maxHeartbeats 1000000 in
set_option maxRecDepth 100000 in
theorem good03 (A B : Option Addr) (c d : Nat) (t : List ByteArray) (l : List DFunc) (w : World) (h : HasMod A B t l w) {r : Bool} (hg : isGoodB t l = r) :
    Calls Try.prog 83 #[.agg #[.slice A t.length c, .slice B l.length d]] w fun e w' => e = .returned (.bool r) ∧ Below w.heap.size w w' := by
  have C := fun w' (hb : Below w.heap.size w w') => ver03x A B c d t l w' (h.ht.below hb) (h.hr.below hb) h.htm h.hm h.htv h.hv
  have hc := verL_code (t := t) (l := l)
  cases r
  · have hg' := of_decide_eq_false hg
    have hne : (verL t l).1 ≠ 0 := fun e => hg' (hc e)
    clear hc hg'
    generalize verL t l = v at C hne
    obtain ⟨a, b, k⟩ := v
    have hne' : (a == 0) = false := by simpa using hne
    go_enter Try.func83, Try.ntmps83
    go_wp2_with fail
    refine (C _ (by repeat (first | exact Below.refl _ _ | assumption | (refine bl_set ?_ (by dsimp only; omega) _) | refine bl_alloc ?_ _ | refine bl_drewN ?_ _ | refine bl_drew ?_ | refine bl_step ?_ (by assumption)))).mono ?_
    rintro e w' ⟨rfl, hb⟩
    go_wp2_with (refine wp_fieldv rfl _ _ _ rfl _ _ rfl (fieldTrouble0 _ _ _) ?_)
    go_ret
    exact ⟨rfl, (by repeat (first | exact Below.refl _ _ | assumption | (refine bl_set ?_ (by dsimp only; omega) _) | refine bl_alloc ?_ _ | refine bl_drewN ?_ _ | refine bl_drew ?_ | refine bl_step ?_ (by assumption)))⟩
  · clear hc
    rw [of_decide_eq_true hg] at C
    go_enter Try.func83, Try.ntmps83
    go_wp2_with fail
    refine (C _ (by repeat (first | exact Below.refl _ _ | assumption | (refine bl_set ?_ (by dsimp only; omega) _) | refine bl_alloc ?_ _ | refine bl_drewN ?_ _ | refine bl_drew ?_ | refine bl_step ?_ (by assumption)))).mono ?_
    rintro e w' ⟨rfl, hb⟩
    go_wp2_with (refine wp_fieldv rfl _ _ _ rfl _ _ rfl (fieldTrouble0 _ _ _) ?_)
    go_ret
    exact ⟨rfl, (by repeat (first | exact Below.refl _ _ | assumption | (refine bl_set ?_ (by dsimp only; omega) _) | refine bl_alloc ?_ _ | refine bl_drewN ?_ _ | refine bl_drew ?_ | refine bl_step ?_ (by assumption)))⟩
def depOf (t : List ByteArray) (l : List DFunc) (f : Int) : List Int := if modB t l = true ∧ 0 ≤ f ∧ f ≤ (l.length : Int) - 1 then depthsL l (l.getD f.toNat zFunc).code else []
theorem depOf_at {t : List ByteArray} {l : List DFunc} {k : Nat} {y : DFunc} (h : modB t l = true) (hy : l[k]? = some y) : depOf t l k = depthsL l y.code := by
  have hk := (List.getElem?_eq_some_iff.1 hy).1
  unfold depOf
  rw [if_pos ⟨h, by omega, by omega⟩, Int.toNat_natCast, List.getD_eq_getElem?_getD, hy]
  rfl
theorem depOf_no {t : List ByteArray} {l : List DFunc} {f : Int} (h : ¬ (modB t l = true ∧ 0 ≤ f ∧ f ≤ (l.length : Int) - 1)) : depOf t l f = [] := by
  unfold depOf
  rw [if_neg h]
end Go.Proofs.Yteoibjacgnmnpaa.Dat
