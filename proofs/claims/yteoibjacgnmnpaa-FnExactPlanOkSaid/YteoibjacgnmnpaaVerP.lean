/- What Verify computes, plainly: the heights of a function, and the first trouble. -/
import Derived.Test.YteoibjacgnmnpaaModOk
namespace Go.Proofs.Yteoibjacgnmnpaa.Dat
open Go Go.RowKit Go.Proofs.Yteoibjacgnmnpaa.Mem
set_option linter.unusedVariables false
set_option linter.unusedSimpArgs false
/-- What may follow an instruction. -/
def nexts (x : DIns) (pc : Nat) : List Int :=
  if x.op = 25 then [] else if x.op = 17 then [x.a] else if x.op = 18 ∨ x.op = 19 then [(pc : Int) + 1, x.a] else [(pc : Int) + 1]
def isJmp (op : Int) : Bool := btw op 17 19
def leftOf (l : List DFunc) (x : DIns) (h : Int) : Int := h - (uses l x.op x.a).1 + (uses l x.op x.a).2
def canB (l : List DFunc) (x : DIns) (h : Int) : Bool := decide ((uses l x.op x.a).1 ≤ h) && decide (leftOf l x h ≤ 16)
def at0 (d : List Int) (i : Int) : Int := d.getD i.toNat 0
/-- A height laid at a place where there is none. -/
def put1 (n : Nat) (left : Int) (s : List Int × Bool) (next : Int) : List Int × Bool := if next < n ∧ at0 s.1 next < 0 then (s.1.set next.toNat left, true) else s
def stepD (l : List DFunc) (n : Nat) (x : DIns) (pc : Nat) (s : List Int × Bool) : List Int × Bool :=
  if at0 s.1 pc < 0 then s else if canB l x (at0 s.1 pc) then (nexts x pc).foldl (put1 n (leftOf l x (at0 s.1 pc))) s else s
def sweepD (l : List DFunc) (n : Nat) : List DIns → Nat → List Int × Bool → List Int × Bool
  | [], _, s => s
  | x :: xs, pc, s => sweepD l n xs (pc + 1) (stepD l n x pc s)
def fixD (l : List DFunc) (c : List DIns) : Nat → List Int → List Int
  | 0, d => d
  | k + 1, d => if (sweepD l c.length c 0 (d, false)).2 then fixD l c k (sweepD l c.length c 0 (d, false)).1 else (sweepD l c.length c 0 (d, false)).1
def initD (n : Nat) : List Int := (List.replicate n (-1 : Int)).set 0 0
def depthsL (l : List DFunc) (c : List DIns) : List Int := fixD l c (c.length + 1) (initD c.length)
/-- What is wrong at an instruction, or 0. -/
def insT (l : List DFunc) (d : List Int) (x : DIns) (pc : Nat) : Int :=
  if at0 d pc < 0 then 0 else if !canB l x (at0 d pc) then 2 else if (nexts x pc).any (fun to => decide (to = (d.length : Int))) then 3 else if (nexts x pc).any (fun to => decide (at0 d to ≠ leftOf l x (at0 d pc))) then 4 else 0
/-- The first trouble from an instruction on. -/
def codeT (l : List DFunc) (d : List Int) : List DIns → Nat → Option (Int × Nat)
  | [], _ => none
  | x :: xs, pc => if insT l d x pc ≠ 0 then some (insT l d x pc, pc) else codeT l d xs (pc + 1)
def funcsT (l : List DFunc) : List DFunc → Nat → Int × Int × Int
  | [], _ => (0, 0, 0)
  | x :: xs, f => match codeT l (depthsL l x.code) x.code 0 with
    | some r => (r.1, f, r.2)
    | none => funcsT l xs (f + 1)
def verL (t : List ByteArray) (l : List DFunc) : Int × Int × Int := if modB t l then funcsT l l 0 else (1, 0, 0)
/-- A module is good. -/
def goodB (t : List ByteArray) (l : List DFunc) : Bool := modB t l && decide (funcsT l l 0 = (0, 0, 0))

/-! ### Facts of a module that is ok -/
/-- An instruction's targets and a function's numbers. -/
structure InsFit (n : Nat) (x : DIns) : Prop where
  jmp : btw x.op 17 19 = true → 0 ≤ x.a ∧ x.a ≤ (n : Int) - 1
theorem nexts_fit {n : Nat} {x : DIns} {pc : Nat} (h : InsFit n x) (hpc : pc < n) : ∀ to ∈ nexts x pc, 0 ≤ to ∧ to ≤ (n : Int) := by
  intro to ht
  unfold nexts at ht
  have hj := h.jmp
  rw [btw_true] at hj
  split at ht
  · simp at ht
  · split at ht
    · rename_i h2
      rw [List.mem_singleton] at ht
      subst ht
      have := hj (by omega)
      omega
    · split at ht
      · rename_i h3
        simp only [List.mem_cons, List.not_mem_nil, or_false] at ht
        rcases ht with rfl | rfl
        · omega
        · have := hj (by omega)
          omega
      · rw [List.mem_singleton] at ht
        omega
/-- Takes and lays are few, and none is less than 0. -/
theorem uses_fit (l : List DFunc) (op a : Int) (hl : ∀ y ∈ l, 0 ≤ y.params ∧ y.params ≤ 6) : 0 ≤ (uses l op a).1 ∧ (uses l op a).1 ≤ 7 ∧ 0 ≤ (uses l op a).2 ∧ (uses l op a).2 ≤ 2 := by
  unfold uses
  split
  · simp
  split
  · simp
  split
  · simp
  split
  · simp
  split
  · simp
  split
  · simp
  split
  · simp
  split
  · rename_i h
    simp only
    omega
  split
  · rename_i h
    have hk : a.toNat < l.length := by omega
    simp only [List.getD_eq_getElem?_getD, List.getElem?_eq_getElem hk, Option.getD_some]
    have := hl _ (List.getElem_mem hk)
    omega
  · simp
/-- Heights from -1 to 16, as many as there are instructions. -/
def Hgt (n : Nat) (d : List Int) : Prop := d.length = n ∧ ∀ h ∈ d, -1 ≤ h ∧ h ≤ 16
theorem Hgt.at_ {n : Nat} {d : List Int} (h : Hgt n d) (i : Int) : -1 ≤ at0 d i ∧ at0 d i ≤ 16 := by
  unfold at0
  rw [List.getD_eq_getElem?_getD]
  rcases Nat.lt_or_ge i.toNat d.length with hi | hi
  · rw [List.getElem?_eq_getElem hi]
    exact h.2 _ (List.getElem_mem hi)
  · rw [List.getElem?_eq_none hi]
    simp
theorem Hgt.init (n : Nat) : Hgt n (initD n) := by
  refine ⟨by simp [initD], fun h hm => ?_⟩
  have := List.mem_or_eq_of_mem_set hm
  rcases this with h1 | h1
  · have := (List.mem_replicate.1 h1).2
    omega
  · omega
theorem Hgt.set {n : Nat} {d : List Int} (h : Hgt n d) (i : Nat) {v : Int} (hv : -1 ≤ v ∧ v ≤ 16) : Hgt n (d.set i v) := by
  refine ⟨by rw [List.length_set]; exact h.1, fun u hm => ?_⟩
  rcases List.mem_or_eq_of_mem_set hm with h1 | h1
  · exact h.2 u h1
  · rw [h1]
    exact hv
/-- How many have no height yet. -/
def negs (d : List Int) : Nat := d.countP (fun h => decide (h < 0))
theorem negs_set {d : List Int} {i : Nat} {v : Int} (hi : i < d.length) (h0 : d[i] < 0) (hv : 0 ≤ v) : negs (d.set i v) + 1 = negs d := by
  unfold negs
  have h1 := List.countP_set (p := fun h : Int => decide (h < 0)) (l := d) (i := i) (a := v) hi
  rw [h1]
  have hpos : 0 < d.countP (fun h => decide (h < 0)) := List.countP_pos_iff.2 ⟨d[i], List.getElem_mem hi, by simpa using h0⟩
  have e1 : decide (d[i] < 0) = true := decide_eq_true h0
  have e2 : decide (v < 0) = false := decide_eq_false (by omega)
  rw [e1, e2]
  simp only [if_true, Bool.false_eq_true, if_false]
  omega
/-- Nothing new, or fewer without a height. -/
def Fewer (s s' : List Int × Bool) : Prop := negs s'.1 ≤ negs s.1 ∧ (s'.2 = s.2 ∨ (s'.2 = true ∧ negs s'.1 < negs s.1))
theorem Fewer.refl (s : List Int × Bool) : Fewer s s := ⟨Nat.le_refl _, .inl rfl⟩
theorem Fewer.trans {a b c : List Int × Bool} (h : Fewer a b) (k : Fewer b c) : Fewer a c := by
  refine ⟨Nat.le_trans k.1 h.1, ?_⟩
  rcases k.2 with e | ⟨e, l⟩
  · rcases h.2 with e2 | ⟨e2, l2⟩
    · exact .inl (e.trans e2)
    · exact .inr ⟨e.trans e2, Nat.lt_of_le_of_lt k.1 l2⟩
  · exact .inr ⟨e, Nat.lt_of_lt_of_le l h.1⟩
theorem put1_fit {n : Nat} {left : Int} {s : List Int × Bool} {next : Int} (h : Hgt n s.1) (hl : 0 ≤ left ∧ left ≤ 16) (hn : 0 ≤ next) : Hgt n (put1 n left s next).1 ∧ Fewer s (put1 n left s next) := by
  unfold put1
  split
  · rename_i hc
    have hi : next.toNat < s.1.length := by rw [h.1]; omega
    have h0 : s.1[next.toNat] < 0 := by
      have := hc.2
      unfold at0 at this
      rwa [List.getD_eq_getElem?_getD, List.getElem?_eq_getElem hi] at this
    have := negs_set (v := left) hi h0 hl.1
    exact ⟨h.set _ (by omega), by show negs (s.1.set next.toNat left) ≤ _; omega, .inr ⟨rfl, by show negs (s.1.set next.toNat left) < _; omega⟩⟩
  · exact ⟨h, Fewer.refl _⟩
theorem puts_fit {n : Nat} {left : Int} (hl : 0 ≤ left ∧ left ≤ 16) : ∀ (ns : List Int) (s : List Int × Bool), Hgt n s.1 → (∀ to ∈ ns, 0 ≤ to) → Hgt n (ns.foldl (put1 n left) s).1 ∧ Fewer s (ns.foldl (put1 n left) s)
  | [], s, h, _ => ⟨h, Fewer.refl _⟩
  | x :: ns, s, h, hn => by
    have h1 := put1_fit h hl (hn x (by simp))
    have h2 := puts_fit hl ns _ h1.1 (fun to ht => hn to (by simp [ht]))
    exact ⟨h2.1, h1.2.trans h2.2⟩
theorem canB_left {l : List DFunc} {x : DIns} {h : Int} (hl : ∀ y ∈ l, 0 ≤ y.params ∧ y.params ≤ 6) (hc : canB l x h = true) : 0 ≤ leftOf l x h ∧ leftOf l x h ≤ 16 := by
  have hu := uses_fit l x.op x.a hl
  simp only [canB, Bool.and_eq_true, decide_eq_true_eq] at hc
  unfold leftOf at *
  omega
theorem stepD_fit {l : List DFunc} {n : Nat} {x : DIns} {pc : Nat} {s : List Int × Bool} (hl : ∀ y ∈ l, 0 ≤ y.params ∧ y.params ≤ 6) (hx : InsFit n x) (hpc : pc < n) (h : Hgt n s.1) : Hgt n (stepD l n x pc s).1 ∧ Fewer s (stepD l n x pc s) := by
  unfold stepD
  split
  · exact ⟨h, Fewer.refl _⟩
  split
  · rename_i hc
    exact puts_fit (canB_left hl hc) _ s h (fun to ht => (nexts_fit hx hpc to ht).1)
  · exact ⟨h, Fewer.refl _⟩
theorem sweepD_fit {l : List DFunc} {n : Nat} (hl : ∀ y ∈ l, 0 ≤ y.params ∧ y.params ≤ 6) : ∀ (c : List DIns) (pc : Nat) (s : List Int × Bool), (∀ x ∈ c, InsFit n x) → pc + c.length ≤ n → Hgt n s.1 → Hgt n (sweepD l n c pc s).1 ∧ Fewer s (sweepD l n c pc s)
  | [], pc, s, _, _, h => ⟨h, Fewer.refl _⟩
  | x :: c, pc, s, hc, hp, h => by
    simp only [List.length_cons] at hp
    have h1 := stepD_fit hl (hc x (by simp)) (show pc < n by omega) h
    have h2 := sweepD_fit hl c (pc + 1) _ (fun y hy => hc y (by simp [hy])) (by omega) h1.1
    exact ⟨h2.1, h1.2.trans h2.2⟩
theorem fixD_fit {l : List DFunc} (hl : ∀ y ∈ l, 0 ≤ y.params ∧ y.params ≤ 6) (c : List DIns) (hc : ∀ x ∈ c, InsFit c.length x) : ∀ (k : Nat) (d : List Int), Hgt c.length d → Hgt c.length (fixD l c k d)
  | 0, d, h => h
  | k + 1, d, h => by
    have h1 := sweepD_fit hl c 0 (d, false) hc (by omega) h
    unfold fixD
    split
    · exact fixD_fit hl c hc k _ h1.1
    · exact h1.1
theorem depthsL_fit {l : List DFunc} (hl : ∀ y ∈ l, 0 ≤ y.params ∧ y.params ≤ 6) (c : List DIns) (hc : ∀ x ∈ c, InsFit c.length x) : Hgt c.length (depthsL l c) := fixD_fit hl c hc _ _ (Hgt.init _)
theorem negs_le (d : List Int) : negs d ≤ d.length := List.countP_le_length
/-- The rest of a sweep, from an instruction on. -/
theorem sweepD_at {l : List DFunc} {n : Nat} {c : List DIns} {k : Nat} {x : DIns} (hx : c[k]? = some x) (s : List Int × Bool) : sweepD l n (c.drop k) k s = sweepD l n (c.drop (k + 1)) (k + 1) (stepD l n x k s) := by
  obtain ⟨hk, e⟩ := List.getElem?_eq_some_iff.1 hx
  rw [List.drop_eq_getElem_cons hk, e]
  rfl
theorem codeT_at {l : List DFunc} {d : List Int} {c : List DIns} {k : Nat} {x : DIns} (hx : c[k]? = some x) : codeT l d (c.drop k) k = if insT l d x k ≠ 0 then some (insT l d x k, k) else codeT l d (c.drop (k + 1)) (k + 1) := by
  obtain ⟨hk, e⟩ := List.getElem?_eq_some_iff.1 hx
  rw [List.drop_eq_getElem_cons hk, e]
  rfl
theorem funcsT_at {l m : List DFunc} {k : Nat} {x : DFunc} (hx : m[k]? = some x) : funcsT l (m.drop k) k = match codeT l (depthsL l x.code) x.code 0 with | some r => (r.1, (k : Int), (r.2 : Int)) | none => funcsT l (m.drop (k + 1)) (k + 1) := by
  obtain ⟨hk, e⟩ := List.getElem?_eq_some_iff.1 hx
  rw [List.drop_eq_getElem_cons hk, e]
  rfl
/-- What a module that is ok has. -/
structure ModFit (t : List ByteArray) (l : List DFunc) : Prop where
  n1 : 1 ≤ l.length
  n12 : l.length ≤ 12
  t20 : t.length ≤ 20
  par : ∀ y ∈ l, 0 ≤ y.params ∧ y.params ≤ 6
  loc : ∀ y ∈ l, y.params ≤ y.locals ∧ y.locals ≤ 12
  c1 : ∀ y ∈ l, 1 ≤ y.code.length
  c120 : ∀ y ∈ l, y.code.length ≤ 120
  ins : ∀ y ∈ l, ∀ x ∈ y.code, insB t.length l.length y.locals y.code.length x.op x.a = true
theorem modFit {t : List ByteArray} {l : List DFunc} (h : modB t l = true) : ModFit t l := by
  simp only [modB, Bool.and_eq_true, decide_eq_true_eq, btw_true, List.all_eq_true, funcB] at h
  obtain ⟨⟨⟨h1, h2⟩, h3⟩, h4⟩ := h
  exact ⟨by omega, by omega, by omega, fun y hy => by have := h4 y hy; omega, fun y hy => by have := h4 y hy; omega, fun y hy => by have := h4 y hy; omega, fun y hy => by have := h4 y hy; omega, fun y hy x hx => (h4 y hy).2 x hx⟩
theorem ModFit.fit {t : List ByteArray} {l : List DFunc} (h : ModFit t l) {y : DFunc} (hy : y ∈ l) {x : DIns} (hx : x ∈ y.code) : InsFit y.code.length x := ⟨fun hj => by
  have h1 := h.ins y hy x hx
  rw [btw_true] at hj
  unfold insB at h1
  rw [if_neg (by omega), if_neg (by omega), if_neg (by omega), if_neg (by omega), if_neg (by omega), if_pos (by omega), btw_true] at h1
  exact h1⟩
theorem ModFit.hgt {t : List ByteArray} {l : List DFunc} (h : ModFit t l) {y : DFunc} (hy : y ∈ l) : Hgt y.code.length (depthsL l y.code) := depthsL_fit h.par _ (fun x hx => h.fit hy hx)
end Go.Proofs.Yteoibjacgnmnpaa.Dat
