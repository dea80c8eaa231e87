/- A bundle: FnI Ver Ver3 EqT Good StrP Str Str2 Mk MkT MkI MkM LawSt Save3. -/
import Derived.Test.YtpjdecneeakkeaaDoorK2
import Derived.Test.YtpjdecneeakkeaaDoorK1
import Derived.Deep.DeepCutAuto
import Derived.Lib.ConvBytes
import Derived.Laws.BytesString
import Derived.Laws.Cells
import Derived.IntWalk
/- slices.Contains, IndexFunc, ContainsFunc over whole numbers; the closure's contract is a premise. -/
namespace Go.Proofs.YtpjdecneeakkeaaDoor.Dat
open Go Go.RowKit Go.Proofs.YtpjdecneeakkeaaDoor.Mem
set_option linter.unusedVariables false
set_option linter.unusedSimpArgs false
/-- What a predicate's closure answers. -/
def Asks {α : Type} (P : Program) (d : Knd α) (mk : List Value → Value) (fn : FuncId) (caps : List Value) (p : α → Bool) (w : World) (l : List α) : Prop := ∀ x ∈ l, ∀ W, Below w.heap.size w W → ∀ cs, d.K W x cs → Calls P fn (mk cs :: caps).toArray W fun e w' => e = .returned (.bool (p x)) ∧ Below W.heap.size W w'
/-- The value of one cell; of a struct. -/
def one1 (cs : List Value) : Value := cs.headD undef
def agg1 (cs : List Value) : Value := .agg cs.toArray
/-- The place of the first one, or -1. -/
def IsIdx {α : Type} (p : α → Bool) (l : List α) (w : World) (e : Ending) (w' : World) : Prop := ∃ r : Int, e = .returned (.int .i64 r) ∧ decide (0 ≤ r) = l.any p ∧ Below w.heap.size w w'
end Go.Proofs.YtpjdecneeakkeaaDoor.Dat

/- Verify in the program. -/
namespace Go.Proofs.YtpjdecneeakkeaaDoor.Dat
open Go Go.RowKit Go.Proofs.YtpjdecneeakkeaaDoor.Mem
set_option linter.unusedVariables false
set_option linter.unusedSimpArgs false
theorem modOkI' (A B : Option Addr) (c d : Nat) (t : List ByteArray) (l : List DFunc) (w : World) (ht : Knd.str.Row w A t.length t) (hr : kFunc.Row w B l.length l) (htm : t.length ≤ 1048576) (hm : l.length ≤ 1048576) (htv : ∀ x ∈ t, x.size ≤ maxLen) (hv : ∀ x ∈ l, x.code.length ≤ 1048576 ∧ -9223372036854775808 ≤ x.locals ∧ x.locals ≤ 9223372036854775807) {b : Bool} (hb : modB t l = b) :
    Calls Tryd.prog 58 #[.agg #[.slice A t.length c, .slice B l.length d]] w fun e w' => e = .returned (.bool b) ∧ Below w.heap.size w w' := hb ▸ modOkI A B c d t l w ht hr htm hm htv hv
def trV (r : Int × Int × Int) : Value := .agg #[.int .i64 r.1, .int .i64 r.2.1, .int .i64 r.2.2]
end Go.Proofs.YtpjdecneeakkeaaDoor.Dat

/- Verify in the reference. -/
namespace Go.Proofs.YtpjdecneeakkeaaDoor.Dat
open Go Go.RowKit Go.Proofs.YtpjdecneeakkeaaDoor.Mem
set_option linter.unusedVariables false
set_option linter.unusedSimpArgs false
theorem modOk01' (A B : Option Addr) (c d : Nat) (t : List ByteArray) (l : List DFunc) (w : World) (ht : Knd.str.Row w A t.length t) (hr : kFunc.Row w B l.length l) (htm : t.length ≤ 1048576) (hm : l.length ≤ 1048576) (htv : ∀ x ∈ t, x.size ≤ maxLen) (hv : ∀ x ∈ l, x.code.length ≤ 1048576 ∧ -9223372036854775808 ≤ x.locals ∧ x.locals ≤ 9223372036854775807) {b : Bool} (hb : modB t l = b) :
    Calls Tryd.prog 55 #[.agg #[.slice A t.length c, .slice B l.length d]] w fun e w' => e = .returned (.bool b) ∧ Below w.heap.size w w' := hb ▸ modOk01 A B c d t l w ht hr htm hm htv hv
theorem insT_no {l : List DFunc} {d : List Int} {x : DIns} {pc : Nat} {h : Int} (hh : at0 d pc = h) (h0 : 0 ≤ h) (k : h < (uses l x.op x.a).1 ∨ 16 < leftOf l x h) : insT l d x pc = 2 := by
  unfold insT canB
  rw [hh, if_neg (by omega)]
  have e : (decide ((uses l x.op x.a).1 ≤ h) && decide (leftOf l x h ≤ 16)) = false := by
    rcases k with k | k
    · rw [decide_eq_false (by omega), Bool.false_and]
    · rw [decide_eq_false (p := leftOf l x h ≤ 16) (by omega), Bool.and_false]
  rw [e]
  rfl
theorem insT_go {l : List DFunc} {d : List Int} {x : DIns} {pc : Nat} {h : Int} (hh : at0 d pc = h) (h0 : 0 ≤ h) (k1 : (uses l x.op x.a).1 ≤ h) (k2 : leftOf l x h ≤ 16) : insT l d x pc = if (nexts x pc).any (fun q => decide (q = (d.length : Int))) then 3 else if (nexts x pc).any (fun q => decide (at0 d q ≠ leftOf l x h)) then 4 else 0 := by
  unfold insT canB
  rw [hh, if_neg (by omega), decide_eq_true k1, decide_eq_true k2]
  rfl
end Go.Proofs.YtpjdecneeakkeaaDoor.Dat

/- The laws' comparison of troubles; Verify's contracts with the answer written out. -/
namespace Go.Proofs.YtpjdecneeakkeaaDoor.Dat
open Go Go.RowKit Go.Proofs.YtpjdecneeakkeaaDoor.Mem
set_option linter.unusedVariables false
set_option linter.unusedSimpArgs false
end Go.Proofs.YtpjdecneeakkeaaDoor.Dat

/- Whether a module is good: Verify finds nothing. DepthsOf. -/
namespace Go.Proofs.YtpjdecneeakkeaaDoor.Dat
open Go Go.RowKit Go.Proofs.YtpjdecneeakkeaaDoor.Mem
set_option linter.unusedVariables false
set_option linter.unusedSimpArgs false
/-- A module that is handed in, of a size that the laws let by. -/
structure HasMod (A B : Option Addr) (t : List ByteArray) (l : List DFunc) (w : World) : Prop where
  ht : Knd.str.Row w A t.length t
  hr : kFunc.Row w B l.length l
  htm : t.length ≤ 1048576
  hm : l.length ≤ 1048576
  htv : ∀ x ∈ t, x.size ≤ maxLen
  hv : ∀ x ∈ l, x.code.length ≤ 1048576 ∧ -9223372036854775808 ≤ x.locals ∧ x.locals ≤ 9223372036854775807
theorem HasMod.below {A B : Option Addr} {t : List ByteArray} {l : List DFunc} {w w' : World} (h : HasMod A B t l w) (hb : Below w.heap.size w w') : HasMod A B t l w' := ⟨h.ht.below hb, h.hr.below hb, h.htm, h.hm, h.htv, h.hv⟩
def isGoodB (t : List ByteArray) (l : List DFunc) : Bool := decide (verL t l = (0, 0, 0))
theorem codeT_fst {l : List DFunc} {d : List Int} : ∀ (c : List DIns) (pc : Nat) (r : Int × Nat), codeT l d c pc = some r → r.1 ≠ 0
  | [], _, r, h => by simp [codeT] at h
  | x :: c, pc, r, h => by
    unfold codeT at h
    split at h
    · rename_i h1
      cases h
      exact h1
    · exact codeT_fst c (pc + 1) r h
theorem funcsT_code {l : List DFunc} : ∀ (m : List DFunc) (f : Nat), (funcsT l m f).1 = 0 → funcsT l m f = (0, 0, 0)
  | [], _, _ => rfl
  | x :: m, f, h => by
    unfold funcsT at h ⊢
    split at h
    · rename_i r hr
      exact absurd h (codeT_fst _ _ _ hr)
    · rename_i hr
      exact funcsT_code m (f + 1) h
theorem verL_code {t : List ByteArray} {l : List DFunc} (h : (verL t l).1 = 0) : verL t l = (0, 0, 0) := by
  unfold verL at h ⊢
  split at h
  · rename_i h1
    rw [if_pos h1]
    exact funcsT_code l 0 h
  · simp at h
theorem isGood_mod {t : List ByteArray} {l : List DFunc} (h : isGoodB t l = true) : modB t l = true := by
  have h1 := of_decide_eq_true h
  unfold verL at h1
  split at h1
  · assumption
  · simp at h1
theorem codeT_none {l : List DFunc} {d : List Int} : ∀ (c : List DIns) (pc : Nat), codeT l d c pc = none → ∀ (j : Nat) (x : DIns), c[j]? = some x → insT l d x (pc + j) = 0
  | [], _, _, j, x, hx => by simp at hx
  | y :: c, pc, h, j, x, hx => by
    unfold codeT at h
    split at h
    · simp at h
    · rename_i h1
      cases j with
      | zero =>
        have e : y = x := by simpa using hx
        subst e
        simpa using h1
      | succ j =>
        have := codeT_none c (pc + 1) h j x (by simpa using hx)
        rwa [show pc + 1 + j = pc + (j + 1) by omega] at this
theorem funcsT_none {l : List DFunc} : ∀ (m : List DFunc) (f : Nat), funcsT l m f = (0, 0, 0) → ∀ x ∈ m, codeT l (depthsL l x.code) x.code 0 = none
  | [], _, _, x, hx => by simp at hx
  | y :: m, f, h, x, hx => by
    unfold funcsT at h
    split at h
    · rename_i r hr
      exact absurd (congrArg (·.1) h) (codeT_fst _ _ _ hr)
    · rename_i hr
      rcases List.mem_cons.1 hx with rfl | hx
      · exact hr
      · exact funcsT_none m (f + 1) h x hx
/-- What an instruction that is come to has, in a good module. -/
theorem good_ins {t : List ByteArray} {l : List DFunc} (h : isGoodB t l = true) {y : DFunc} (hy : y ∈ l) {pc : Nat} {x : DIns} (hx : y.code[pc]? = some x) (h0 : 0 ≤ at0 (depthsL l y.code) pc) :
    canB l x (at0 (depthsL l y.code) pc) = true ∧ ∀ q ∈ nexts x pc, q ≠ (y.code.length : Int) ∧ at0 (depthsL l y.code) q = leftOf l x (at0 (depthsL l y.code) pc) := by
  have hm := modFit (isGood_mod h)
  have h1 := of_decide_eq_true h
  unfold verL at h1
  rw [if_pos (isGood_mod h)] at h1
  have h2 := codeT_none _ _ (funcsT_none l 0 h1 y hy) pc x hx
  rw [Nat.zero_add] at h2
  unfold insT at h2
  rw [if_neg (by omega), (hm.hgt hy).1] at h2
  split at h2
  · simp at h2
  rename_i h3
  have h3 : canB l x (at0 (depthsL l y.code) pc) = true := by simpa using h3
  split at h2
  · simp at h2
  rename_i h4
  split at h2
  · simp at h2
  rename_i h5
  refine ⟨h3, fun q hq => ⟨fun e => ?_, ?_⟩⟩
  · exact h4 (List.any_eq_true.2 ⟨q, hq, by simp [e]⟩)
  · have h6 : ∀ z, z ∈ nexts x pc → at0 (depthsL l y.code) z = leftOf l x (at0 (depthsL l y.code) pc) := by simpa using h5
    exact h6 q hq
/-- A field of a struct that lies in no memory. -/
theorem wp_fieldv {P : Program} {ops : Array Oper} {rest : List Oper} {o : Oper} {a : Act} {Q : Exit → Act → World → Prop} {W : World} (hgd : o.guard = none) (t : TypeId) (x : Operand) (k : Nat) (ho : o.op = .field t x k) (v u : Value) (hx : a.eval x = v) (hr : ∀ W, (Instr.field t v k).run P W = .ok u W)
    (h : wpList P ops Q rest (a.put o.dst u) W) : wpList P ops Q (o :: rest) a W := by
  have hrun : (execOp a.eval o).run P W = .ok (.value u) W := by simp [execOp, ho, hx, hr]
  refine wpList_plain hgd fun K hK => ?_
  unfold Oper.wp
  rw [hrun]
  exact hK _ _ h
def depOf (t : List ByteArray) (l : List DFunc) (f : Int) : List Int := if modB t l = true ∧ 0 ≤ f ∧ f ≤ (l.length : Int) - 1 then depthsL l (l.getD f.toNat zFunc).code else []
theorem depOf_at {t : List ByteArray} {l : List DFunc} {k : Nat} {y : DFunc} (h : modB t l = true) (hy : l[k]? = some y) : depOf t l k = depthsL l y.code := by
  have hk := (List.getElem?_eq_some_iff.1 hy).1
  unfold depOf
  rw [if_pos ⟨h, by omega, by omega⟩, Int.toNat_natCast, List.getD_eq_getElem?_getD, hy]
  rfl
theorem depOf_no {t : List ByteArray} {l : List DFunc} {f : Int} (h : ¬ (modB t l = true ∧ 0 ≤ f ∧ f ≤ (l.length : Int) - 1)) : depOf t l f = [] := by
  unfold depOf
  rw [if_neg h]
end Go.Proofs.YtpjdecneeakkeaaDoor.Dat

/- Leaders, heads and straight functions, plainly. -/
namespace Go.Proofs.YtpjdecneeakkeaaDoor.Dat
open Go Go.RowKit Go.Proofs.YtpjdecneeakkeaaDoor.Mem
set_option linter.unusedVariables false
set_option linter.unusedSimpArgs false
def leadS (m : List Bool) (x : DIns) (pc : Nat) (h : Int) : List Bool := if h < 0 ∨ isJmp x.op = false then m else if x.op = 17 then m.set x.a.toNat true else (m.set x.a.toNat true).set (pc + 1) true
def leadM (d : List Int) : List DIns → Nat → List Bool → List Bool
  | [], _, m => m
  | x :: c, pc, m => leadM d c (pc + 1) (leadS m x pc (at0 d pc))
def headS (m : List Bool) (x : DIns) (pc : Nat) (h : Int) : List Bool := if 0 ≤ h ∧ isJmp x.op = true ∧ x.a ≤ pc then m.set x.a.toNat true else m
def headM (d : List Int) : List DIns → Nat → List Bool → List Bool
  | [], _, m => m
  | x :: c, pc, m => headM d c (pc + 1) (headS m x pc (at0 d pc))
/-- The places that are marked. -/
def markF : List Bool → Nat → List Int
  | [], _ => []
  | b :: bs, i => if b then (i : Int) :: markF bs (i + 1) else markF bs (i + 1)
def leadersL (l : List DFunc) (c : List DIns) : List Int := markF (leadM (depthsL l c) c 0 ((List.replicate c.length false).set 0 true)) 0
def headsL (l : List DFunc) (c : List DIns) : List Int := markF (headM (depthsL l c) c 0 (List.replicate c.length false)) 0
def noJmp (d : List Int) : List DIns → Nat → Bool
  | [], _ => true
  | x :: c, pc => !(decide (0 ≤ at0 d pc) && isJmp x.op) && noJmp d c (pc + 1)
def straightB (l : List DFunc) (c : List DIns) : Bool := noJmp (depthsL l c) c 0 && decide ((c.length : Int) ≤ 24)
theorem leadS_len (m : List Bool) (x : DIns) (pc : Nat) (h : Int) : (leadS m x pc h).length = m.length := by
  unfold leadS
  split
  · rfl
  · split <;> simp
theorem headS_len (m : List Bool) (x : DIns) (pc : Nat) (h : Int) : (headS m x pc h).length = m.length := by
  unfold headS
  split <;> simp
theorem leadM_len (d : List Int) : ∀ (c : List DIns) (pc : Nat) (m : List Bool), (leadM d c pc m).length = m.length
  | [], _, _ => rfl
  | x :: c, pc, m => by rw [leadM, leadM_len d c, leadS_len]
theorem headM_len (d : List Int) : ∀ (c : List DIns) (pc : Nat) (m : List Bool), (headM d c pc m).length = m.length
  | [], _, _ => rfl
  | x :: c, pc, m => by rw [headM, headM_len d c, headS_len]
theorem set_true {m : List Bool} {i k : Nat} (hi : i < m.length) : (m.set k true)[i]? = some true ↔ m[i]? = some true ∨ k = i := by
  rw [List.getElem?_set]
  split
  · rename_i h
    subst h
    simp [hi]
  · rename_i h
    simp [h]
theorem leadS_iff {m : List Bool} {x : DIns} {pc : Nat} {h : Int} {i : Nat} (hi : i < m.length) : (leadS m x pc h)[i]? = some true ↔ m[i]? = some true ∨ (0 ≤ h ∧ isJmp x.op = true ∧ (x.a.toNat = i ∨ (x.op ≠ 17 ∧ pc + 1 = i))) := by
  unfold leadS
  split
  · rename_i h1
    constructor
    · exact .inl
    · rintro (h2 | ⟨h2, h3, _⟩)
      · exact h2
      · rcases h1 with h1 | h1
        · omega
        · rw [h1] at h3
          simp at h3
  · rename_i h1
    have a1 : 0 ≤ h := by omega
    have a2 : isJmp x.op = true := by
      cases h3 : isJmp x.op
      · exact absurd (.inr h3) h1
      · rfl
    split
    · rename_i h2
      rw [set_true hi]
      constructor
      · rintro (h3 | h3)
        · exact .inl h3
        · exact .inr ⟨a1, a2, .inl h3⟩
      · rintro (h3 | ⟨_, _, h3 | ⟨h3, _⟩⟩)
        · exact .inl h3
        · exact .inr h3
        · exact absurd h2 h3
    · rename_i h2
      rw [set_true (by simpa using hi), set_true hi]
      constructor
      · rintro ((h3 | h3) | h3)
        · exact .inl h3
        · exact .inr ⟨a1, a2, .inl h3⟩
        · exact .inr ⟨a1, a2, .inr ⟨h2, h3⟩⟩
      · rintro (h3 | ⟨_, _, h3 | ⟨_, h3⟩⟩)
        · exact .inl (.inl h3)
        · exact .inl (.inr h3)
        · exact .inr h3
theorem headS_iff {m : List Bool} {x : DIns} {pc : Nat} {h : Int} {i : Nat} (hi : i < m.length) : (headS m x pc h)[i]? = some true ↔ m[i]? = some true ∨ (0 ≤ h ∧ isJmp x.op = true ∧ x.a ≤ pc ∧ x.a.toNat = i) := by
  unfold headS
  split
  · rename_i h1
    rw [set_true hi]
    simp [h1.1, h1.2.1, h1.2.2]
  · rename_i h1
    constructor
    · exact .inl
    · rintro (h2 | ⟨h2, h3, h4, _⟩)
      · exact h2
      · exact absurd ⟨h2, h3, h4⟩ h1
theorem leadM_iff {d : List Int} {i : Nat} : ∀ (c : List DIns) (pc : Nat) (m : List Bool), i < m.length → ((leadM d c pc m)[i]? = some true ↔ m[i]? = some true ∨ ∃ (j : Nat) (x : DIns), c[j]? = some x ∧ 0 ≤ at0 d ((pc + j : Nat) : Int) ∧ isJmp x.op = true ∧ (x.a.toNat = i ∨ (x.op ≠ 17 ∧ pc + j + 1 = i)))
  | [], pc, m, _ => by simp [leadM]
  | y :: c, pc, m, hi => by
    rw [leadM, leadM_iff c (pc + 1) _ (by rw [leadS_len]; exact hi), leadS_iff hi]
    constructor
    · rintro ((h | ⟨h1, h2, h3⟩) | ⟨j, x, h1, h2, h3, h4⟩)
      · exact .inl h
      · exact .inr ⟨0, y, rfl, by simpa using h1, h2, by simpa using h3⟩
      · refine .inr ⟨j + 1, x, by simpa using h1, ?_, h3, ?_⟩
        · rwa [show pc + (j + 1) = pc + 1 + j by omega]
        · rwa [show pc + (j + 1) + 1 = pc + 1 + j + 1 by omega]
    · rintro (h | ⟨j, x, h1, h2, h3, h4⟩)
      · exact .inl (.inl h)
      · cases j with
        | zero =>
          have e : y = x := by simpa using h1
          subst e
          exact .inl (.inr ⟨by simpa using h2, h3, by simpa using h4⟩)
        | succ j =>
          refine .inr ⟨j, x, by simpa using h1, ?_, h3, ?_⟩
          · rwa [show pc + 1 + j = pc + (j + 1) by omega]
          · rwa [show pc + 1 + j + 1 = pc + (j + 1) + 1 by omega]
theorem headM_iff {d : List Int} {i : Nat} : ∀ (c : List DIns) (pc : Nat) (m : List Bool), i < m.length → ((headM d c pc m)[i]? = some true ↔ m[i]? = some true ∨ ∃ (j : Nat) (x : DIns), c[j]? = some x ∧ 0 ≤ at0 d ((pc + j : Nat) : Int) ∧ isJmp x.op = true ∧ x.a ≤ ((pc + j : Nat) : Int) ∧ x.a.toNat = i)
  | [], pc, m, _ => by simp [headM]
  | y :: c, pc, m, hi => by
    rw [headM, headM_iff c (pc + 1) _ (by rw [headS_len]; exact hi), headS_iff hi]
    constructor
    · rintro ((h | ⟨h1, h2, h3, h4⟩) | ⟨j, x, h1, h2, h3, h4, h5⟩)
      · exact .inl h
      · exact .inr ⟨0, y, rfl, by simpa using h1, h2, by simpa using h3, h4⟩
      · refine .inr ⟨j + 1, x, by simpa using h1, ?_, h3, ?_, h5⟩
        · rwa [show pc + (j + 1) = pc + 1 + j by omega]
        · rwa [show pc + (j + 1) = pc + 1 + j by omega]
    · rintro (h | ⟨j, x, h1, h2, h3, h4, h5⟩)
      · exact .inl (.inl h)
      · cases j with
        | zero =>
          have e : y = x := by simpa using h1
          subst e
          exact .inl (.inr ⟨by simpa using h2, h3, by simpa using h4, h5⟩)
        | succ j =>
          refine .inr ⟨j, x, by simpa using h1, ?_, h3, ?_, h5⟩
          · rwa [show pc + 1 + j = pc + (j + 1) by omega]
          · rwa [show pc + 1 + j = pc + (j + 1) by omega]
theorem mem_markF {z : Int} : ∀ (m : List Bool) (i : Nat), z ∈ markF m i ↔ ∃ k : Nat, m[k]? = some true ∧ z = ((i + k : Nat) : Int)
  | [], i => by simp [markF]
  | b :: m, i => by
    have ih := mem_markF (z := z) m (i + 1)
    cases b
    · simp only [markF, Bool.false_eq_true, if_false, ih]
      constructor
      · rintro ⟨k, h1, h2⟩
        exact ⟨k + 1, by simpa using h1, by rw [h2]; omega⟩
      · rintro ⟨k, h1, h2⟩
        cases k with
        | zero => simp at h1
        | succ k => exact ⟨k, by simpa using h1, by rw [h2]; omega⟩
    · simp only [markF, if_true, List.mem_cons, ih]
      constructor
      · rintro (h | ⟨k, h1, h2⟩)
        · exact ⟨0, rfl, by simpa using h⟩
        · exact ⟨k + 1, by simpa using h1, by rw [h2]; omega⟩
      · rintro ⟨k, h1, h2⟩
        cases k with
        | zero => exact .inl (by simpa using h2)
        | succ k => exact .inr ⟨k, by simpa using h1, by rw [h2]; omega⟩
theorem noJmp_iff {d : List Int} : ∀ (c : List DIns) (pc : Nat), noJmp d c pc = true ↔ ∀ (j : Nat) (x : DIns), c[j]? = some x → 0 ≤ at0 d ((pc + j : Nat) : Int) → isJmp x.op = false
  | [], pc => by simp [noJmp]
  | y :: c, pc => by
    unfold noJmp
    rw [Bool.and_eq_true, noJmp_iff c (pc + 1)]
    constructor
    · rintro ⟨h1, h2⟩ j x hx h0
      cases j with
      | zero =>
        have e : y = x := by simpa using hx
        subst e
        have h0' : 0 ≤ at0 d (pc : Int) := by simpa using h0
        rw [decide_eq_true h0', Bool.true_and] at h1
        simpa using h1
      | succ j => exact h2 j x (by simpa using hx) (by rwa [show pc + 1 + j = pc + (j + 1) by omega])
    · intro h
      refine ⟨?_, fun j x hx h0 => h (j + 1) x (by simpa using hx) (by rwa [show pc + (j + 1) = pc + 1 + j by omega])⟩
      by_cases h0 : 0 ≤ at0 d (pc : Int)
      · rw [decide_eq_true h0, h 0 y rfl (by simpa using h0)]
        rfl
      · rw [decide_eq_false h0]
        rfl
theorem straight_eq {l : List DFunc} {c : List DIns} (hc : ∀ x ∈ c, InsFit c.length x) (h1 : 1 ≤ c.length) : noJmp (depthsL l c) c 0 = (decide ((leadersL l c).length = 1) && decide ((headsL l c).length = 0)) := by
  have hin : ∀ i : Nat, i < c.length → i < ((List.replicate c.length false).set 0 true).length := fun i hi => by simpa using hi
  have hin2 : ∀ i : Nat, i < c.length → i < (List.replicate c.length false).length := fun i hi => by simpa using hi
  have hno : ∀ i : Nat, (List.replicate c.length false)[i]? ≠ some true := fun i e => by
    rw [List.getElem?_replicate] at e
    split at e <;> simp at e
  cases hs : noJmp (depthsL l c) c 0
  · have hex : ∃ (j : Nat) (x : DIns), c[j]? = some x ∧ 0 ≤ at0 (depthsL l c) ((0 + j : Nat) : Int) ∧ isJmp x.op = true := by
      refine Classical.byContradiction fun hn => ?_
      have : noJmp (depthsL l c) c 0 = true := (noJmp_iff c 0).2 (fun j x hx h0 => by
        cases hj : isJmp x.op
        · rfl
        · exact absurd ⟨j, x, hx, h0, hj⟩ hn)
      rw [this] at hs
      simp at hs
    obtain ⟨j, x, hx, h0, hj⟩ := hex
    obtain ⟨ha0, ha1⟩ := (hc x (List.mem_of_getElem? hx)).jmp hj
    have hk : x.a.toNat < c.length := by omega
    by_cases hle : x.a ≤ ((0 + j : Nat) : Int)
    · have hm : (headM (depthsL l c) c 0 (List.replicate c.length false))[x.a.toNat]? = some true := (headM_iff c 0 _ (hin2 _ hk)).2 (.inr ⟨j, x, hx, h0, hj, hle, rfl⟩)
      have hmem : (x.a.toNat : Int) ∈ headsL l c := (mem_markF _ _).2 ⟨x.a.toNat, hm, by simp⟩
      have : 0 < (headsL l c).length := List.length_pos_of_mem hmem
      rw [decide_eq_false (p := (headsL l c).length = 0) (by omega), Bool.and_false]
    · have hm : (leadM (depthsL l c) c 0 ((List.replicate c.length false).set 0 true))[x.a.toNat]? = some true := (leadM_iff c 0 _ (hin _ hk)).2 (.inr ⟨j, x, hx, h0, hj, .inl rfl⟩)
      have hm0 : (leadM (depthsL l c) c 0 ((List.replicate c.length false).set 0 true))[0]? = some true := (leadM_iff c 0 _ (hin _ (by omega))).2 (.inl (by rw [List.getElem?_set_self (by simp; omega)]))
      have a1 : (x.a.toNat : Int) ∈ leadersL l c := (mem_markF _ _).2 ⟨x.a.toNat, hm, by simp⟩
      have a2 : (0 : Int) ∈ leadersL l c := (mem_markF _ _).2 ⟨0, hm0, by simp⟩
      have hne : (leadersL l c).length ≠ 1 := fun e => by
        obtain ⟨z, hz⟩ := List.length_eq_one_iff.1 e
        rw [hz] at a1 a2
        have b1 := List.mem_singleton.1 a1
        have b2 := List.mem_singleton.1 a2
        omega
      rw [decide_eq_false hne, Bool.false_and]
  · have hall := (noJmp_iff c 0).1 hs
    have hh : headsL l c = [] := by
      apply List.eq_nil_iff_forall_not_mem.2
      intro z hz
      obtain ⟨k, hk, _⟩ := (mem_markF _ _).1 hz
      have hkl : k < c.length := by
        have := (List.getElem?_eq_some_iff.1 hk).1
        rwa [headM_len, List.length_replicate] at this
      rcases (headM_iff c 0 _ (hin2 k hkl)).1 hk with h2 | ⟨j, x, hx, h0, hj, _⟩
      · exact hno k h2
      · rw [hall j x hx h0] at hj
        simp at hj
    have hl0 : ∀ z ∈ leadersL l c, z = 0 := by
      intro z hz
      obtain ⟨k, hk, hzk⟩ := (mem_markF _ _).1 hz
      have hkl : k < c.length := by
        have := (List.getElem?_eq_some_iff.1 hk).1
        rwa [leadM_len, List.length_set, List.length_replicate] at this
      rcases (leadM_iff c 0 _ (hin k hkl)).1 hk with h2 | ⟨j, x, hx, h0, hj, _⟩
      · rcases (set_true (hin2 k hkl)).1 h2 with h3 | h3
        · exact absurd h3 (hno k)
        · rw [hzk, ← h3]
          simp
      · rw [hall j x hx h0] at hj
        simp at hj
    have hl : (leadersL l c).length = 1 := by
      have e : leadM (depthsL l c) c 0 ((List.replicate c.length false).set 0 true) = (List.replicate c.length false).set 0 true := by
        apply List.ext_getElem?
        intro i
        rcases Nat.lt_or_ge i c.length with hi | hi
        · have b1 := leadM_iff (d := depthsL l c) c 0 ((List.replicate c.length false).set 0 true) (hin i hi)
          have b2 : (leadM (depthsL l c) c 0 ((List.replicate c.length false).set 0 true))[i]? = some true ↔ ((List.replicate c.length false).set 0 true)[i]? = some true := by
            rw [b1]
            constructor
            · rintro (h2 | ⟨j, x, hx, h0, hj, _⟩)
              · exact h2
              · rw [hall j x hx h0] at hj
                simp at hj
            · exact .inl
          have l1 : i < (leadM (depthsL l c) c 0 ((List.replicate c.length false).set 0 true)).length := by rw [leadM_len]; exact hin i hi
          have l2 := hin i hi
          rw [List.getElem?_eq_getElem l1, List.getElem?_eq_getElem l2] at b2 ⊢
          simp only [Option.some.injEq] at b2 ⊢
          exact Bool.eq_iff_iff.2 b2
        · rw [List.getElem?_eq_none (by rw [leadM_len]; simpa using hi), List.getElem?_eq_none (by simpa using hi)]
      unfold leadersL
      rw [e]
      obtain ⟨n, hn⟩ : ∃ n, c.length = n + 1 := ⟨c.length - 1, by omega⟩
      rw [hn, List.replicate_succ, List.set_cons_zero]
      have e2 : ∀ (n i : Nat), markF (List.replicate n false) i = [] := by
        intro n
        induction n with
        | zero => intro i; rfl
        | succ n ih => intro i; rw [List.replicate_succ]; simp [markF, ih]
      simp [markF, e2]
    rw [decide_eq_true hl, hh]
    rfl
end Go.Proofs.YtpjdecneeakkeaaDoor.Dat

/- Leaders, heads and straight functions, in the program and in the reference. -/
namespace Go.Proofs.YtpjdecneeakkeaaDoor.Dat
open Go Go.RowKit Go.Proofs.YtpjdecneeakkeaaDoor.Mem
set_option linter.unusedVariables false
set_option linter.unusedSimpArgs false
theorem infoBool : (Tryd.prog.info? 4).map (fun i => (i.zero, i.size, i.bytes)) = some (some (.bool false), 1, 1) := by kernel_rfl
theorem markF_at {m : List Bool} {k : Nat} {b : Bool} (hk : m[k]? = some b) : markF (m.take (k + 1)) 0 = markF (m.take k) 0 ++ (if b then [(k : Int)] else []) := by
  have gen : ∀ (m : List Bool) (k i : Nat) (b : Bool), m[k]? = some b → markF (m.take (k + 1)) i = markF (m.take k) i ++ (if b then [((i + k : Nat) : Int)] else []) := by
    intro m
    induction m with
    | nil => intro k i b h; simp at h
    | cons c m ih =>
      intro k i b h
      cases k with
      | zero =>
        have e : c = b := by simpa using h
        subst e
        cases c <;> simp [markF]
      | succ k =>
        have := ih k (i + 1) b (by simpa using h)
        rw [show i + 1 + k = i + (k + 1) by omega] at this
        cases c <;> simp [markF, this]
  simpa using gen m k 0 b hk
end Go.Proofs.YtpjdecneeakkeaaDoor.Dat

/- Straight, in the program and in the reference. -/
namespace Go.Proofs.YtpjdecneeakkeaaDoor.Dat
open Go Go.RowKit Go.Proofs.YtpjdecneeakkeaaDoor.Mem
set_option linter.unusedVariables false
set_option linter.unusedSimpArgs false
def isFuncB (t : List ByteArray) (l : List DFunc) (f : Int) : Bool := btw f 0 ((l.length : Int) - 1) && isGoodB t l
/-- Straight, whole. -/
def strB (t : List ByteArray) (l : List DFunc) (f : Int) : Bool := isFuncB t l f && straightB l (l.getD f.toNat zFunc).code
end Go.Proofs.YtpjdecneeakkeaaDoor.Dat

/- An element of a row of the call's own: read with what it owns, one of its cells written, or its inner rows turned. -/
namespace Go.Proofs.YtpjdecneeakkeaaDoor.Mem
open Go Go.RowKit
set_option linter.unusedVariables false
set_option linter.unusedSimpArgs false
namespace Knd
variable {α : Type} {d : Knd α} {e : Nat} {w : World} {xs : List α} {Fs : List (List Nat)} {g n c : Nat}
/-- A row that stands at a block: its cells by name. -/
structure At (d : Knd α) (e : Nat) (w : World) (g n c : Nat) (xs : List α) (Fs : List (List Nat)) (inner : List Value) : Prop where
  row : w.ownsRow 0 e d.sz (.slice (some ⟨g, 0, none⟩) n c) xs.length inner
  els : Els d w xs inner Fs
  nd : (g :: Fs.flatten).Nodup
theorem OwnF.toAt (h : OwnF d e w (.slice (some ⟨g, 0, none⟩) n c) xs Fs) (hnd : (g :: Fs.flatten).Nodup) : ∃ inner, At d e w g n c xs Fs inner := by
  obtain ⟨inner, ho, hr⟩ := h
  exact ⟨inner, ho, hr, hnd⟩
namespace At
variable {inner : List Value}
theorem ownF (h : At d e w g n c xs Fs inner) : OwnF d e w (.slice (some ⟨g, 0, none⟩) n c) xs Fs := ⟨inner, h.row, h.els⟩
theorem num (h : At d e w g n c xs Fs inner) : n = xs.length := by
  rcases h.row.2 with ⟨h1, _⟩ | ⟨g', cap', cur, h1, _⟩
  · cases h1
  · injection h1
theorem cell (h : At d e w g n c xs Fs inner) (k : Nat) (hk : k < xs.length * d.sz) : w.cell? ⟨g, k, none⟩ = inner[k]? := by
  have hn := h.num
  subst hn
  exact World.ownsRow.cellAt h.row k hk
theorem free (h : At d e w g n c xs Fs inner) (k : Nat) : w.frozen? ⟨g, k, none⟩ = false := by
  have hn := h.num
  subst hn
  exact World.ownsRow.frozenAt h.row k
/-- The cells of one element. -/
def seg (d : Knd α) (inner : List Value) (j : Nat) : List Value := (inner.drop (j * d.sz)).take d.sz
theorem elem (h : At d e w g n c xs Fs inner) (j : Nat) (x : α) (hx : xs[j]? = some x) : ∃ Fj, Fs[j]? = some Fj ∧ d.O w x (seg d inner j) Fj ∧ (∀ i u, (seg d inner j)[i]? = some u → w.cell? ⟨g, j * d.sz + i, none⟩ = some u) := by
  have hj : j < xs.length := (List.getElem?_eq_some_iff.1 hx).1
  have hl : j < Fs.length := by rw [h.els.2.1]; exact hj
  have hO := h.els.2.2 j x _ hx (List.getElem?_eq_getElem hl)
  refine ⟨Fs[j], List.getElem?_eq_getElem hl, hO, fun i u hu => ?_⟩
  have hi : i < d.sz := by
    have := (List.getElem?_eq_some_iff.1 hu).1
    unfold seg at this
    rw [List.length_take] at this
    omega
  have hle : (j + 1) * d.sz ≤ xs.length * d.sz := Nat.mul_le_mul_right _ hj
  rw [Nat.succ_mul] at hle
  rw [h.cell _ (by omega)]
  unfold seg at hu
  rwa [List.getElem?_take_of_lt hi, List.getElem?_drop] at hu
theorem seg_set_same (inner : List Value) (j i : Nat) (u : Value) (hi : i < d.sz) : seg d (inner.set (j * d.sz + i) u) j = (seg d inner j).set i u := by
  unfold seg
  rw [List.drop_set, if_neg (by omega), List.take_set]
  congr 1
  omega
theorem seg_set_far (inner : List Value) (j k i : Nat) (u : Value) (hi : i < d.sz) (hjk : j ≠ k) : seg d (inner.set (k * d.sz + i) u) j = seg d inner j := by
  unfold seg
  apply List.ext_getElem?
  intro q
  rcases Nat.lt_or_ge q d.sz with hq | hq
  · rw [List.getElem?_take_of_lt hq, List.getElem?_drop, List.getElem?_take_of_lt hq, List.getElem?_drop, List.getElem?_set_ne]
    rcases Nat.lt_or_gt_of_ne hjk with hlt | hlt
    · have := Nat.mul_le_mul_right d.sz (show j + 1 ≤ k from hlt)
      rw [Nat.succ_mul] at this
      omega
    · have := Nat.mul_le_mul_right d.sz (show k + 1 ≤ j from hlt)
      rw [Nat.succ_mul] at this
      omega
  · rw [List.getElem?_eq_none (by rw [List.length_take]; omega), List.getElem?_eq_none (by rw [List.length_take]; omega)]
theorem gne (h : At d e w g n c xs Fs inner) : ∀ q ∈ Fs.flatten, q ≠ g := fun q hq he => (List.nodup_cons.1 h.nd).1 (he ▸ hq)
/-- One cell of one element written. -/
theorem put (h : At d e w g n c xs Fs inner) (j i : Nat) (hj : j < xs.length) (hi : i < d.sz) (u : Value) (x : α) (Fj : List Nat) (hF : Fs[j]? = some Fj) (hO : d.O w x ((seg d inner j).set i u) Fj) : At d e (w.setCell ⟨g, j * d.sz + i, none⟩ u) g n c (xs.set j x) Fs (inner.set (j * d.sz + i) u) := by
  have hn := h.num
  subst hn
  refine ⟨?_, ⟨?_, ?_, fun k p Fk hp hFk => ?_⟩, h.nd⟩
  · have := (World.ownsRow.stored h.row (j * d.sz + i) u).1
    rw [List.length_set]
    exact this
  · rw [List.length_set, List.length_set]
    exact h.els.1
  · rw [List.length_set]
    exact h.els.2.1
  · have hfar : ∀ q ∈ Fk, (w.setCell ⟨g, j * d.sz + i, none⟩ u).heap[q]? = w.heap[q]? := fun q hq => Below.heap_setCell w _ u q (h.gne q (List.mem_flatten.2 ⟨Fk, List.mem_of_getElem? hFk, hq⟩))
    show d.O _ p (seg d _ k) Fk
    by_cases hk : k = j
    · subst hk
      rw [List.getElem?_set_self hj] at hp
      cases hp
      rw [hF] at hFk
      cases hFk
      rw [seg_set_same _ _ _ _ hi]
      exact d.O_frame hfar hO
    · rw [List.getElem?_set_ne (Ne.symm hk)] at hp
      rw [seg_set_far _ _ _ _ _ hi hk]
      exact d.O_frame hfar (h.els.2.2 k p Fk hp hFk)
/-- What one element owns, turned. -/
theorem turn {w' : World} (h : At d e w g n c xs Fs inner) (j : Nat) (hj : j < xs.length) (x : α) (Fj G : List Nat) (hF : Fs[j]? = some Fj) (hG : ∀ q ∈ G, q ∈ Fj) (hB : But G w w') (hO : d.O w' x (seg d inner j) Fj) : At d e w' g n c (xs.set j x) Fs inner := by
  have hgn : g ∉ G := fun hm => h.gne g (List.mem_flatten.2 ⟨Fj, List.mem_of_getElem? hF, hG g hm⟩) rfl
  have hlt := h.ownF.lt
  have hg : w'.heap[g]? = w.heap[g]? := hB.block g (hlt g (by simp [Value.ownBlock])) hgn
  refine ⟨?_, ⟨?_, ?_, fun k p Fk hp hFk => ?_⟩, h.nd⟩
  · rw [List.length_set]
    obtain ⟨h1, h2⟩ := h.row
    refine ⟨h1, ?_⟩
    rcases h2 with h2 | ⟨g', cap, cur, hv, h3, hh, r⟩
    · exact .inl h2
    · cases hv
      exact .inr ⟨g, _, cur, rfl, h3, hg.trans hh, r⟩
  · rw [List.length_set]
    exact h.els.1
  · rw [List.length_set]
    exact h.els.2.1
  · by_cases hk : k = j
    · subst hk
      rw [List.getElem?_set_self hj] at hp
      cases hp
      rw [hF] at hFk
      cases hFk
      exact hO
    · rw [List.getElem?_set_ne (Ne.symm hk)] at hp
      refine d.O_frame (fun q hq => hB.block q ?_ (fun hm => ?_)) (h.els.2.2 k p Fk hp hFk)
      · exact hlt q (List.mem_append_right _ (List.mem_flatten.2 ⟨Fk, List.mem_of_getElem? hFk, hq⟩))
      · have h1 := (List.nodup_cons.1 h.nd).2
        have h2 := (List.pairwise_flatten.1 h1).2
        obtain ⟨a1, a2⟩ := List.getElem?_eq_some_iff.1 hFk
        obtain ⟨b1, b2⟩ := List.getElem?_eq_some_iff.1 hF
        have hqj := hG q hm
        rcases Nat.lt_or_gt_of_ne hk with hlt2 | hlt2
        · exact List.pairwise_iff_getElem.1 h2 k j a1 b1 hlt2 q (by rw [a2]; exact hq) q (by rw [b2]; exact hqj) rfl
        · exact List.pairwise_iff_getElem.1 h2 j k b1 a1 hlt2 q (by rw [b2]; exact hqj) q (by rw [a2]; exact hq) rfl
theorem below {w' : World} (h : At d e w g n c xs Fs inner) (hb : Below w.heap.size w w') : At d e w' g n c xs Fs inner := by
  have hlt := h.ownF.lt
  refine ⟨?_, h.els.frame (fun q hq => hb.block q (hlt q (List.mem_append_right _ hq))), h.nd⟩
  obtain ⟨h1, h2⟩ := h.row
  refine ⟨h1, ?_⟩
  rcases h2 with h2 | ⟨g', cap, cur, hv, h3, hh, r⟩
  · exact .inl h2
  · cases hv
    exact .inr ⟨g, _, cur, rfl, h3, (hb.block g (hlt g (by simp [Value.ownBlock]))).trans hh, r⟩
theorem but_put {w0 : World} (hB : But (g :: Fs.flatten) w0 w) (k : Nat) (u : Value) : But (g :: Fs.flatten) w0 (w.setCell ⟨g, k, none⟩ u) := hB.set (by simp) k u
theorem but_turn {w0 w' : World} (hB : But (g :: Fs.flatten) w0 w) {j : Nat} {Fj G : List Nat} (hF : Fs[j]? = some Fj) (hG : ∀ q ∈ G, q ∈ Fj) (hB2 : But G w w') : But (g :: Fs.flatten) w0 w' := hB.then hB2 (fun q hq => .inl (List.mem_cons_of_mem _ (List.mem_flatten.2 ⟨Fj, List.mem_of_getElem? hF, hG q hq⟩)))
end At
theorem Own.toAt {v : Value} {F : List Nat} (h : Own d e w v xs F) (hnd : F.Nodup) (hn : 0 < xs.length) : ∃ g c Fs inner, v = .slice (some ⟨g, 0, none⟩) xs.length c ∧ F = g :: Fs.flatten ∧ At d e w g xs.length c xs Fs inner := by
  obtain ⟨Fs, hF, rfl⟩ := h.fs
  obtain ⟨g, c, rfl⟩ := hF.form hn
  have e1 : (Value.slice (some (⟨g, 0, none⟩ : Addr)) xs.length c).ownBlock.toList ++ Fs.flatten = g :: Fs.flatten := rfl
  rw [e1] at hnd
  obtain ⟨inner, hA⟩ := hF.toAt hnd
  exact ⟨g, c, Fs, inner, rfl, e1, hA⟩
theorem At.own {inner : List Value} (h : At d e w g n c xs Fs inner) : Own d e w (.slice (some ⟨g, 0, none⟩) n c) xs (g :: Fs.flatten) := h.ownF.own
end Knd
end Go.Proofs.YtpjdecneeakkeaaDoor.Mem

/- The laws' own texts of marks. -/
namespace Go.Proofs.YtpjdecneeakkeaaDoor.Dat
open Go Go.RowKit Go.Proofs.YtpjdecneeakkeaaDoor.Mem
set_option linter.unusedVariables false
set_option linter.unusedSimpArgs false
def digs (k : Nat) (out : ByteArray) : ByteArray := if h : k = 0 then out else digs (k / 10) ((⟨#[48 + UInt8.ofNat (k % 10)]⟩ : ByteArray) ++ out)
decreasing_by omega
def mkText (k : Int) : ByteArray := if k ≤ 0 then (⟨#[109, 48]⟩ : ByteArray) else (⟨#[109]⟩ : ByteArray) ++ digs k.toNat ⟨#[]⟩
theorem digs_0 (out : ByteArray) : digs 0 out = out := by rw [digs]; simp
theorem digs_s {k : Nat} (h : 0 < k) (out : ByteArray) : digs k out = digs (k / 10) ((⟨#[48 + UInt8.ofNat (k % 10)]⟩ : ByteArray) ++ out) := by rw [digs, dif_neg (by omega)]
theorem wp_byteStr {P : Program} {ops : Array Oper} {rest : List Oper} {o : Oper} {a : Act} {Q : Exit → Act → World → Prop} {W : World} (hgd : o.guard = none) (src dst : TypeId) (x : Operand) (ho : o.op = .convert src dst x) (e : TypeId) (hs : P.underlying src = some (.slice e)) (he : P.underlying e = some (.int .u8)) (hd : P.underlying dst = some .string)
    (B c : Nat) (n : Int) (hx : a.eval x = .slice (some ⟨B, 0, none⟩) 1 c) (hc : W.cell? ⟨B, 0, none⟩ = some (.int .u8 n))
    (h : wpList P ops Q rest (a.put o.dst (.string (⟨#[UInt8.ofNat n.toNat]⟩ : ByteArray))) W) : wpList P ops Q (o :: rest) a W := by
  have hl : (loadCells ⟨B, 0, none⟩ 1).run P W = .ok ([n].map (Value.int .u8)).toArray W := by
    have := run_loadCells_list (P := P) W ⟨B, 0, none⟩ [.int .u8 n] (fun j v hj => by
      have := one_src hc j v hj
      have e2 : (⟨B, 0, none⟩ : Addr).add j = ⟨B, j, none⟩ := by unfold Addr.add; split <;> simp_all
      rw [e2]
      exact this)
    simpa using this
  have hr : (convert src dst (.slice (some ⟨B, 0, none⟩) 1 c)).run P W = .ok (.string (⟨#[UInt8.ofNat n.toNat]⟩ : ByteArray)) W := by
    rw [run_convert_bytes_string W src dst e _ 1 c hs he hd, run_bytesToString W _ 1 c [n] hl]
    rfl
  have hrun : (execOp a.eval o).run P W = .ok (.value (.string (⟨#[UInt8.ofNat n.toNat]⟩ : ByteArray))) W := by simp [execOp, ho, hx, hr]
  refine wpList_plain hgd fun K hK => ?_
  unfold Oper.wp
  rw [hrun]
  exact hK _ _ h
/-! ### Marks of a row -/
def mkL {α : Type} (mk : Int → α → α) (ct : α → Nat) : Int → List α → List α
  | _, [] => []
  | k, x :: l => mk k x :: mkL mk ct (k + ct x) l
def ctL {α : Type} (ct : α → Nat) (l : List α) : Nat := (l.map ct).sum
theorem mkL_len {α : Type} (mk : Int → α → α) (ct : α → Nat) : ∀ (l : List α) (k : Int), (mkL mk ct k l).length = l.length
  | [], _ => rfl
  | x :: l, k => by simp [mkL, mkL_len mk ct l]
theorem mkL_get {α : Type} (mk : Int → α → α) (ct : α → Nat) : ∀ (l : List α) (k : Int) (j : Nat) (x : α), l[j]? = some x → (mkL mk ct k l)[j]? = some (mk (k + ctL ct (l.take j)) x)
  | [], _, _, _, h => by simp at h
  | y :: l, k, 0, x, h => by
    have e : y = x := by simpa using h
    subst e
    simp [mkL, ctL]
  | y :: l, k, j + 1, x, h => by
    have := mkL_get mk ct l (k + ct y) j x (by simpa using h)
    simp only [mkL, List.getElem?_cons_succ, this]
    congr 2
    simp [ctL]
    omega
theorem ctL_snoc {α : Type} (ct : α → Nat) (l : List α) (k : Nat) (x : α) (hx : l[k]? = some x) : ctL ct (l.take (k + 1)) = ctL ct (l.take k) + ct x := by
  have hk : k < l.length := (List.getElem?_eq_some_iff.1 hx).1
  have e : l[k] = x := (List.getElem?_eq_some_iff.1 hx).2
  unfold ctL
  rw [List.take_succ_eq_append_getElem hk, List.map_append, List.sum_append, e]
  simp
theorem ctL_le {α : Type} (ct : α → Nat) (l : List α) (k : Nat) : ctL ct (l.take k) ≤ ctL ct l := by
  unfold ctL
  have : (l.map ct).sum = ((l.take k).map ct).sum + ((l.drop k).map ct).sum := by
    rw [← List.sum_append, ← List.map_append, List.take_append_drop]
  omega
theorem ctL_mem {α : Type} (ct : α → Nat) (l : List α) (k : Nat) (x : α) (hx : l[k]? = some x) : ctL ct (l.take k) + ct x ≤ ctL ct l := by
  have := ctL_snoc ct l k x hx
  have := ctL_le ct l (k + 1)
  omega
/-- A row marked up to a place. -/
def upto {α : Type} (mk : Int → α → α) (ct : α → Nat) (k : Int) (l : List α) (j : Nat) : List α := (mkL mk ct k l).take j ++ l.drop j
theorem upto_0 {α : Type} (mk : Int → α → α) (ct : α → Nat) (k : Int) (l : List α) : upto mk ct k l 0 = l := by simp [upto]
theorem upto_all {α : Type} (mk : Int → α → α) (ct : α → Nat) (k : Int) (l : List α) : upto mk ct k l l.length = mkL mk ct k l := by
  unfold upto
  rw [List.drop_length, List.append_nil, List.take_of_length_le (by rw [mkL_len]; exact Nat.le_refl _)]
theorem upto_len {α : Type} (mk : Int → α → α) (ct : α → Nat) (k : Int) (l : List α) (j : Nat) : (upto mk ct k l j).length = l.length := by
  have := mkL_len mk ct l k
  simp [upto]
  omega
theorem upto_get {α : Type} (mk : Int → α → α) (ct : α → Nat) (k : Int) (l : List α) (j : Nat) (x : α) (hx : l[j]? = some x) : (upto mk ct k l j)[j]? = some x := by
  have hj : j < l.length := (List.getElem?_eq_some_iff.1 hx).1
  have h1 := mkL_len mk ct l k
  unfold upto
  rw [List.getElem?_append_right (by rw [List.length_take]; omega), List.length_take, Nat.min_eq_left (by omega), Nat.sub_self, List.getElem?_drop, Nat.add_zero]
  exact hx
theorem upto_set {α : Type} (mk : Int → α → α) (ct : α → Nat) (k : Int) (l : List α) (j : Nat) (x : α) (hx : l[j]? = some x) : (upto mk ct k l j).set j (mk (k + ctL ct (l.take j)) x) = upto mk ct k l (j + 1) :=
  set_upto _ _ j _ (mkL_len mk ct l k) (mkL_get mk ct l k j x hx)
end Go.Proofs.YtpjdecneeakkeaaDoor.Dat

/- The laws' marks. Written by a program (markgen.py). -/
namespace Go.Proofs.YtpjdecneeakkeaaDoor.Dat
open Go Go.RowKit Go.Proofs.YtpjdecneeakkeaaDoor.Mem
set_option linter.unusedVariables false
set_option linter.unusedSimpArgs false
def ctIns (x : DIns) : Nat := 2
def mkIns (k : Int) (x : DIns) : DIns := { op := k, a := k + 1 }
theorem kIns_Oi {w : World} {x : DIns} {cs : List Value} {F : List Nat} : kIns.O w x cs F ↔ cs = [.int .i64 x.op, .int .i64 x.a] ∧ F = [] := by
  constructor
  · rintro ⟨_, _, _, _, rfl, rfl, ⟨rfl, rfl⟩, ⟨rfl, rfl⟩⟩
    exact ⟨rfl, rfl⟩
  · rintro ⟨rfl, rfl⟩
    have h : kIns.O w x [.int .i64 x.op, .int .i64 x.a] (([] ++ [])) := ⟨[.int .i64 x.op], [.int .i64 x.a], [], [], rfl, by simp, ⟨rfl, rfl⟩, ⟨rfl, rfl⟩⟩
    simpa using h
def ctFunc (x : DFunc) : Nat := 2 + ctL ctIns x.code
def mkFunc (k : Int) (x : DFunc) : DFunc := { params := k, locals := k + 1, code := mkL mkIns ctIns (k + 1 + 1) x.code }
theorem kFunc_Oi {w : World} {x : DFunc} {cs : List Value} {F : List Nat} : kFunc.O w x cs F ↔ ∃ (v2 : Value) (F2 : List Nat), cs = [.int .i64 x.params, .int .i64 x.locals, v2] ∧ F = F2 ∧ kIns.Own 25 w v2 x.code F2 := by
  constructor
  · rintro ⟨_, _, _, _, rfl, rfl, ⟨rfl, rfl⟩, ⟨_, _, _, _, rfl, rfl, ⟨rfl, rfl⟩, ⟨v2, rfl, o2⟩⟩⟩
    exact ⟨v2, _, rfl, by simp, o2⟩
  · rintro ⟨v2, F2, rfl, rfl, o2⟩
    have h : kFunc.O w x [.int .i64 x.params, .int .i64 x.locals, v2] (([] ++ ([] ++ F))) := ⟨[.int .i64 x.params], [.int .i64 x.locals, v2], [], ([] ++ F), rfl, by simp, ⟨rfl, rfl⟩, ⟨[.int .i64 x.locals], [v2], [], F, rfl, by simp, ⟨rfl, rfl⟩, ⟨v2, rfl, o2⟩⟩⟩
    simpa using h
end Go.Proofs.YtpjdecneeakkeaaDoor.Dat

/- The laws' marks in whole numbers, texts and modules. -/
namespace Go.Proofs.YtpjdecneeakkeaaDoor.Dat
open Go Go.RowKit Go.Proofs.YtpjdecneeakkeaaDoor.Mem
set_option linter.unusedVariables false
set_option linter.unusedSimpArgs false
def mkI (k : Int) : List Int → List Int
  | [] => []
  | _ :: bs => k :: mkI (k + 1) bs
theorem mkI_len (k : Int) (bs : List Int) : (mkI k bs).length = bs.length := by
  induction bs generalizing k with
  | nil => rfl
  | cons b bs ih => simp [mkI, ih]
theorem mkI_get (k : Int) (bs : List Int) (j : Nat) (hj : j < bs.length) : (mkI k bs)[j]? = some (k + j) := by
  induction bs generalizing k j with
  | nil => simp at hj
  | cons b bs ih =>
    cases j with
    | zero => simp [mkI]
    | succ j =>
      have := ih (k + 1) j (by simpa using hj)
      simp only [mkI, List.getElem?_cons_succ, this]
      congr 1
      omega
theorem ctL_one {α : Type} (l : List α) : ctL (fun _ => 1) l = l.length := by
  unfold ctL
  induction l with
  | nil => rfl
  | cons x l ih => simp [ih]; omega
def mkStr (k : Int) (_ : ByteArray) : ByteArray := mkText k
end Go.Proofs.YtpjdecneeakkeaaDoor.Dat

/- What the walks of the laws with marks lean on: a module's two rows as one resource; comparisons of rows. -/
namespace Go.Proofs.YtpjdecneeakkeaaDoor.Mem
open Go Go.RowKit
/-- Two resources as one. -/
def Res.two (a b : Res) : Res := ⟨a.F ++ b.F, fun W => a.P W ∧ b.P W, fun h g hg => by
  rcases List.mem_append.1 hg with hg | hg
  · exact a.lt h.1 g hg
  · exact b.lt h.2 g hg, fun h k => ⟨a.loc (fun g hg => h g (List.mem_append_left _ hg)) k.1, b.loc (fun g hg => h g (List.mem_append_right _ hg)) k.2⟩⟩
end Go.Proofs.YtpjdecneeakkeaaDoor.Mem
namespace Go.Proofs.YtpjdecneeakkeaaDoor.Dat
open Go Go.RowKit Go.Proofs.YtpjdecneeakkeaaDoor.Mem
set_option linter.unusedVariables false
set_option linter.unusedSimpArgs false
def Res.mod (v u : Value) (t : List ByteArray) (l : List DFunc) (F G : List Nat) : Res := Res.two (Res.own Knd.str 9 v t F) (Res.own kFunc 107 u l G)
theorem St.newMod {w W W' : World} {L : List Res} {v u : Value} {t : List ByteArray} {l : List DFunc} {F G : List Nat} (h : St w L W) (hot : Knd.str.Own 9 W' v t F) (hor : kFunc.Own 107 W' u l G) (hnd : (F ++ G).Nodup) (hF : ∀ g ∈ F ++ G, W.heap.size ≤ g) (hb : Below W.heap.size W W') : St w (Res.mod v u t l F G :: L) W' :=
  h.new (r := Res.mod v u t l F G) hb ⟨hot, hor⟩ hnd hF
/-- A module among the resources, as a call reads it. -/
theorem St.modR {w W : World} {L : List Res} {v u : Value} {t : List ByteArray} {l : List DFunc} {F G : List Nat} (h : St w L W) (i : Nat) (hi : L[i]? = some (Res.mod v u t l F G)) : ∃ A c B d, v = .slice A t.length c ∧ u = .slice B l.length d ∧ Knd.str.Row W A t.length t ∧ kFunc.Row W B l.length l := by
  obtain ⟨h1, h2⟩ := h.get i hi
  obtain ⟨A, c, hv, _, hr⟩ := Knd.Own.row h1
  obtain ⟨B, d, hu, _, hr2⟩ := Knd.Own.row h2
  exact ⟨A, c, B, d, hv, hu, hr, hr2⟩
theorem St.modA {w W : World} {L : List Res} {A B : Option Addr} {n m c d : Nat} {t : List ByteArray} {l : List DFunc} {F G : List Nat} (h : St w L W) (i : Nat) (hi : L[i]? = some (Res.mod (.slice A n c) (.slice B m d) t l F G)) : Knd.str.Row W A t.length t ∧ kFunc.Row W B l.length l := by
  obtain ⟨A', c', B', d', h1, h2, h3, h4⟩ := St.modR h i hi
  cases h1
  cases h2
  exact ⟨h3, h4⟩
theorem St.rowA {w W : World} {L : List Res} {α : Type} {d : Knd α} {e : Nat} {A : Option Addr} {n c : Nat} {xs : List α} {F : List Nat} (h : St w L W) (i : Nat) (hi : L[i]? = some (Res.own d e (.slice A n c) xs F)) : d.Row W A xs.length xs := by
  obtain ⟨A', c', h1, _, h3⟩ := h.row i hi
  cases h1
  exact h3
theorem St.rowN {w W : World} {L : List Res} {α : Type} {d : Knd α} {e : Nat} {A : Option Addr} {n c : Nat} {xs : List α} {F : List Nat} (h : St w L W) (i : Nat) (hi : L[i]? = some (Res.own d e (.slice A n c) xs F)) (hn : xs.length = n) : d.Row W A n xs := by
  have h1 := St.rowA h i hi
  rwa [hn] at h1
theorem St.newRowF {w W W' : World} {L : List Res} {α : Type} {d : Knd α} {e : Nat} {xs : List α} {en : Ending} (h : St w L W) (hn : NewRow d e xs W en W') : ∃ A c F, en = .returned (.slice A xs.length c) ∧ St w (Res.own d e (.slice A xs.length c) xs F :: L) W' := by
  obtain ⟨v, F, rfl, h2⟩ := h.newRow hn
  obtain ⟨A, c, rfl, _, _⟩ := h2.row 0 rfl
  exact ⟨A, c, F, rfl, h2⟩
/-- A module's mark stays small. -/
theorem ctFunc_small (l : List DFunc) (h1 : l.length ≤ 1048576) (h2 : ∀ x ∈ l, x.code.length ≤ 1048576) : ctL ctFunc l ≤ 4611686018427 := by
  have h3 : ∀ x ∈ l, ctFunc x ≤ 2097154 := fun x hx => by
    have := h2 x hx
    have h4 : ctL ctIns x.code = 2 * x.code.length := by
      unfold ctL
      generalize x.code = c
      induction c with
      | nil => rfl
      | cons y c ih => simp [ctIns, ih]; omega
    unfold ctFunc
    omega
  have h5 : ∀ m : List DFunc, (∀ x ∈ m, ctFunc x ≤ 2097154) → ctL ctFunc m ≤ 2097154 * m.length := by
    intro m
    induction m with
    | nil => simp [ctL]
    | cons y m ih =>
      intro h
      have a1 := h y (by simp)
      have a2 := ih (fun x hx => h x (by simp [hx]))
      unfold ctL at a2 ⊢
      simp only [List.map_cons, List.sum_cons, List.length_cons]
      omega
  have := h5 l h3
  omega
theorem fixD_len (l : List DFunc) (c : List DIns) : ∀ (k : Nat) (d : List Int), (fixD l c k d).length = d.length := by
  have h1 : ∀ (n : Nat) (left : Int) (s : List Int × Bool) (q : Int), (put1 n left s q).1.length = s.1.length := fun n left s q => by unfold put1; split <;> simp
  have h2 : ∀ (n : Nat) (left : Int) (ns : List Int) (s : List Int × Bool), (ns.foldl (put1 n left) s).1.length = s.1.length := by
    intro n left ns
    induction ns with
    | nil => intro s; rfl
    | cons q ns ih => intro s; rw [List.foldl_cons, ih, h1]
  have h3 : ∀ (n : Nat) (x : DIns) (pc : Nat) (s : List Int × Bool), (stepD l n x pc s).1.length = s.1.length := fun n x pc s => by
    unfold stepD
    split
    · rfl
    · split
      · exact h2 _ _ _ _
      · rfl
  have h4 : ∀ (n : Nat) (c : List DIns) (pc : Nat) (s : List Int × Bool), (sweepD l n c pc s).1.length = s.1.length := by
    intro n c
    induction c with
    | nil => intro pc s; rfl
    | cons x c ih => intro pc s; rw [sweepD, ih, h3]
  intro k
  induction k with
  | zero => intro d; rfl
  | succ k ih =>
    intro d
    unfold fixD
    split
    · rw [ih, h4]
    · rw [h4]
theorem depOf_len (t : List ByteArray) (l : List DFunc) (f : Int) (hm : l.length ≤ 1048576) (hv : ∀ x ∈ l, x.code.length ≤ 1048576) : (depOf t l f).length ≤ 1048576 := by
  unfold depOf
  split
  · rename_i h
    have hk : f.toNat < l.length := by omega
    rw [List.getD_eq_getElem?_getD, List.getElem?_eq_getElem hk]
    unfold depthsL
    rw [fixD_len]
    have := hv _ (List.getElem_mem hk)
    simpa [initD] using this
  · simp
end Go.Proofs.YtpjdecneeakkeaaDoor.Dat

/- Save, in the program and in the reference. -/
namespace Go.Proofs.YtpjdecneeakkeaaDoor.Dat
open Go Go.RowKit Go.Proofs.YtpjdecneeakkeaaDoor.Mem
set_option linter.unusedVariables false
set_option linter.unusedSimpArgs false
theorem own_nd {α : Type} {enc : α → Value} {h1 : ∀ x, (enc x).oneCell' = true} {e : Nat} {w : World} {v : Value} {xs : List α} {F : List Nat} (h : Knd.Own (Knd.scalar enc h1) e w v xs F) : F.Nodup := by
  rw [Knd.flat_own h]
  cases v.ownBlock <;> simp
theorem St.grew {w W W' : World} {L : List Res} {v : Value} {xs bs : List Int} {F : List Nat} {en : Ending} (h : St w L W) (i : Nat) (hi : L[i]? = some (Res.own (Knd.int .u8) 5 v xs F)) (hg : Grew W F bs en W') : ∃ v' F', en = .returned v' ∧ St w (L.set i (Res.own (Knd.int .u8) 5 v' bs F')) W' := by
  obtain ⟨v', F', rfl, ho, hB, hF⟩ := hg
  exact ⟨v', F', rfl, h.upd (r' := Res.own (Knd.int .u8) 5 v' bs F') i hi hB ho (own_nd ho) hF⟩
theorem St.text {w W W' : World} {o : Obj} {v v' : Value} {xs bs : List Int} {F F' : List Nat} (h : St w [Res.own (Knd.int .u8) 5 v xs F, Res.box w.heap.size o] W) (ho : (Knd.int .u8).Own 5 W' v' bs F') (hB : But F W W') (hF : ∀ g ∈ F', w.heap.size + 1 ≤ g) : St w [Res.own (Knd.int .u8) 5 v' bs F', Res.box w.heap.size o] W' := by
  have hb : Below w.heap.size w W' := hB.below h.bel (h.olds 0 rfl)
  have hx : W'.heap[w.heap.size]? = some o := by
    have hn : w.heap.size ∉ F := fun hm => h.apart 0 1 (by decide) rfl rfl _ hm (by simp [Res.box])
    exact (hB.block _ (h.blt 1 rfl) hn).trans (h.get 1 rfl)
  refine ⟨hb, ?_, ?_, ?_⟩
  · intro r hr
    simp only [List.mem_cons, List.not_mem_nil, or_false] at hr
    rcases hr with rfl | rfl
    · exact ho
    · exact hx
  · intro r hr g hg
    simp only [List.mem_cons, List.not_mem_nil, or_false] at hr
    rcases hr with rfl | rfl
    · have := hF g hg
      omega
    · have : g = w.heap.size := by simpa [Res.box] using hg
      omega
  · show (F' ++ ([w.heap.size] ++ [])).Nodup
    rw [List.append_nil, List.nodup_append]
    refine ⟨own_nd ho, by simp, fun a ha b hb e => ?_⟩
    subst e
    have := hF a ha
    have : a = w.heap.size := by simpa using hb
    omega
theorem St.farM {w W : World} {o : Obj} {v : Value} {xs : List Int} {F : List Nat} (h : St w [Res.own (Knd.int .u8) 5 v xs F, Res.box w.heap.size o] W) : ∀ g ∈ F, w.heap.size + 1 ≤ g := fun g hg => by
  have h1 : w.heap.size ≤ g := h.olds 0 rfl g hg
  have h2 := h.apart 0 1 (by decide) rfl rfl g hg
  have h3 : g ≠ w.heap.size := fun e => h2 (by simp [Res.box, e])
  omega
theorem modSmall {t : List ByteArray} {l : List DFunc} (h : modB t l = true) : Small t l := by
  have hf := modFit h
  have ht : t.all textB = true := by
    simp only [modB, Bool.and_eq_true] at h
    exact h.1.2
  refine ⟨by have := hf.t20; omega, fun x hx => ?_, by have := hf.n12; omega, fun x hx => ?_, fun x hx y hy => ?_⟩
  · have := List.all_eq_true.1 ht x hx
    simp only [textB, Bool.and_eq_true, decide_eq_true_eq] at this
    omega
  · have h1 := hf.par x hx
    have h2 := hf.loc x hx
    have h3 := hf.c120 x hx
    omega
  · have h1 := hf.ins x hx y hy
    have h0 := hf.par x hx
    have h2 := hf.loc x hx
    have h3 := hf.c120 x hx
    have h4 := hf.n12
    have h5 := hf.t20
    unfold insB at h1
    by_cases e1 : y.op = 1
    · rw [if_pos e1, btw_true] at h1; omega
    rw [if_neg e1] at h1
    by_cases e2 : y.op = 2
    · rw [if_pos e2, btw_true] at h1; omega
    rw [if_neg e2] at h1
    by_cases e3 : y.op = 3
    · rw [if_pos e3, btw_true] at h1; omega
    rw [if_neg e3] at h1
    by_cases e4 : y.op = 5 ∨ y.op = 24
    · rw [if_pos e4, btw_true] at h1; omega
    rw [if_neg e4] at h1
    by_cases e5 : y.op = 6 ∨ y.op = 7
    · rw [if_pos e5, btw_true, prev_of (m := x.locals) (by omega)] at h1; omega
    rw [if_neg e5] at h1
    by_cases e6 : y.op = 17 ∨ y.op = 18 ∨ y.op = 19
    · rw [if_pos e6, btw_true] at h1; omega
    rw [if_neg e6] at h1
    by_cases e7 : y.op = 20
    · rw [if_pos e7, btw_true] at h1; omega
    rw [if_neg e7] at h1
    by_cases e8 : y.op = 21 ∨ y.op = 22
    · rw [if_pos e8, btw_true] at h1; omega
    rw [if_neg e8] at h1
    by_cases e9 : y.op = 23
    · rw [if_pos e9, btw_true] at h1; omega
    rw [if_neg e9, Bool.and_eq_true, btw_true, decide_eq_true_eq] at h1
    omega
/-- Save, plainly. -/
def saveL (t : List ByteArray) (l : List DFunc) : List Int := if modB t l = true ∧ ((saveBy t l).length : Int) ≤ 20000 then saveBy t l else []
theorem saveL_len (t : List ByteArray) (l : List DFunc) : (saveL t l).length ≤ 1048576 := by
  unfold saveL
  split
  · rename_i h
    omega
  · simp
end Go.Proofs.YtpjdecneeakkeaaDoor.Dat
