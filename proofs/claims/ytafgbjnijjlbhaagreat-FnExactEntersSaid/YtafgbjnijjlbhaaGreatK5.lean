/- A bundle: Cmp Prof Prof3 ProfOk. -/
import Derived.Test.YtafgbjnijjlbhaaGreatK3
import Derived.Test.YtafgbjnijjlbhaaGreatK4
import Derived.Deep.RegionHeld3
import Derived.IntWalk
/- cmp.Compare, cmp.Or of two numbers; sites and guesses compared by their places; the instruction at a place. -/
namespace Go.Proofs.YtafgbjnijjlbhaaGreat.Dat
open Go Go.RowKit Go.Proofs.YtafgbjnijjlbhaaGreat.Mem
set_option linter.unusedVariables false
set_option linter.unusedSimpArgs false
theorem old1 {w : World} {p : Addr} {v : Value} (h : w.cell? p = some v) : ∀ o, (w.alloc o).cell? p = some v := fun o => kept ((Below.refl _ _).alloc (Nat.le_refl _) o) h
theorem old2 {w : World} {p : Addr} {v : Value} (h : w.cell? p = some v) : ∀ o o', ((w.alloc o).alloc o').cell? p = some v := fun o o' => old1 (old1 h o) o'
/-- One place is ahead of another one. -/
def lessP (f p g q : Int) : Bool := decide (f < g) || (decide (f = g) && decide (p < q))
def isAr (op : Int) : Bool := btw op 11 14
theorem isArith (op a : Int) (w : World) {r : Bool} (h : isAr op = r) : Calls Tryz.prog 243 #[.agg #[.int .i64 op, .int .i64 a]] w fun e w' => e = .returned (.bool r) ∧ Below w.heap.size w w' := by
  have H := Lib.hid h
  clear h
  go_enter Tryz.func243, Tryz.ntmps243
  go_wp2_with fail
  refine (inRange _ H.out).mono ?_
  rintro e w' ⟨rfl, rfl⟩
  go_wp2
  go_ret
  exact ⟨rfl, bl9⟩
/-- The instruction at a place, if there is one. -/
def insO (l : List DFunc) (f p : Int) : Option DIns := if btw f 0 ((l.length : Int) - 1) && btw p 0 (((l.getD f.toNat zFunc).code.length : Int) - 1) then (l.getD f.toNat zFunc).code[p.toNat]? else none
theorem getD_some {α : Type} {l : List α} {k : Nat} {y z : α} (h : l[k]? = some y) : l.getD k z = y := by rw [List.getD_eq_getElem?_getD, h]; rfl
theorem insO_some {l : List DFunc} {f p : Int} {x : DIns} (h : insO l f p = some x) : ∃ (k j : Nat) (y : DFunc), f = k ∧ p = j ∧ l[k]? = some y ∧ y.code[j]? = some x := by
  unfold insO at h
  split at h
  · rename_i hb
    rw [Bool.and_eq_true, btw_true, btw_true] at hb
    have hk : f.toNat < l.length := by omega
    refine ⟨f.toNat, p.toNat, l[f.toNat], by omega, by omega, List.getElem?_eq_getElem hk, ?_⟩
    rw [getD_some (List.getElem?_eq_getElem hk)] at h
    exact h
  · simp at h
theorem insO_none {l : List DFunc} {f p : Int} (h : insO l f p = none) : btw f 0 ((l.length : Int) - 1) = false ∨ ∃ (k : Nat) (y : DFunc), f = k ∧ l[k]? = some y ∧ btw p 0 ((y.code.length : Int) - 1) = false := by
  unfold insO at h
  cases h1 : btw f 0 ((l.length : Int) - 1)
  · exact .inl rfl
  · right
    have h2 := btw_true.1 h1
    have hk : f.toNat < l.length := by omega
    refine ⟨f.toNat, l[f.toNat], by omega, List.getElem?_eq_getElem hk, ?_⟩
    rw [h1, getD_some (List.getElem?_eq_getElem hk)] at h
    cases h3 : btw p 0 ((l[f.toNat].code.length : Int) - 1)
    · rfl
    · have h4 := btw_true.1 h3
      rw [h3] at h
      have h5 : l[f.toNat].code[p.toNat]? = none := by simpa using h
      rw [List.getElem?_eq_none_iff] at h5
      omega
theorem insO_at {l : List DFunc} {k j : Nat} {y : DFunc} {x : DIns} (hy : l[k]? = some y) (hx : y.code[j]? = some x) : insO l k j = some x := by
  have h1 := (List.getElem?_eq_some_iff.1 hy).1
  have h2 := (List.getElem?_eq_some_iff.1 hx).1
  unfold insO
  rw [Int.toNat_natCast, Int.toNat_natCast, getD_some hy, btw_true.2 (by omega), btw_true.2 (by omega)]
  exact hx
set_option maxHeartbeats 4000000 in
set_option maxRecDepth 100000 in
theorem insAtI (A B : Option Addr) (c d : Nat) (t : List ByteArray) (l : List DFunc) (f p : Int) (w : World) (h : HasMod A B t l w) {o : Option DIns} (ho : insO l f p = o) :
    Calls Tryz.prog 202 #[.agg #[.slice A t.length c, .slice B l.length d], .int .i64 f, .int .i64 p] w fun e w' => e = .returned (.tuple #[.agg #[.int .i64 (o.getD zIns).op, .int .i64 (o.getD zIns).a], .bool o.isSome]) ∧ Below w.heap.size w w' := by
  have hm := h.hm
  rcases o with _ | x
  · rcases insO_none ho with h1 | ⟨k, y, rfl, hy, h1⟩
    · have H1 := Lib.hid h1
      clear h1 ho
      go_enter Tryz.func202, Tryz.ntmps202
      go_wp2_with fail
      refine (isPlace _ H1.out (by omega) (by omega)).mono ?_
      rintro e w' ⟨rfl, rfl⟩
      go_wp2
      exact bodyPost_ret (v := .tuple #[.agg #[.int .i64 0, .int .i64 0], .bool false]) (by simp [results, Tryz.results202, go_sem, *]) rfl ⟨rfl, bl9⟩
    · have hk := (List.getElem?_eq_some_iff.1 hy).1
      have hyc := (h.hv y (List.mem_of_getElem? hy)).1
      obtain ⟨ad, A2, c2, rfl, q0, q1, q2, hl2, hr2⟩ := kFunc_at h.hr k y hy
      have H0 := Lib.hid (show btw (k : Int) 0 ((l.length : Int) - 1) = true from btw_true.2 (by omega))
      have H1 := Lib.hid h1
      have q2' := old2 q2
      clear h1 ho hy
      go_enter Tryz.func202, Tryz.ntmps202
      go_wp2_with fail
      refine (isPlace _ H0.out (by omega) (by omega)).mono ?_
      rintro e w' ⟨rfl, rfl⟩
      go_wp2_with fail
      refine (isPlace _ H1.out (by omega) (by omega)).mono ?_
      rintro e w' ⟨rfl, rfl⟩
      go_wp2
      exact bodyPost_ret (v := .tuple #[.agg #[.int .i64 0, .int .i64 0], .bool false]) (by simp [results, Tryz.results202, go_sem, *]) rfl ⟨rfl, bl9⟩
  · obtain ⟨k, j, y, rfl, rfl, hy, hx⟩ := insO_some ho
    have hk := (List.getElem?_eq_some_iff.1 hy).1
    have hj := (List.getElem?_eq_some_iff.1 hx).1
    have hyc := (h.hv y (List.mem_of_getElem? hy)).1
    obtain ⟨ad, A2, c2, rfl, q0, q1, q2, hl2, hr2⟩ := kFunc_at h.hr k y hy
    obtain ⟨ad2, rfl, r0, r1⟩ := kIns_at hr2 j x hx
    have H0 := Lib.hid (show btw (k : Int) 0 ((l.length : Int) - 1) = true from btw_true.2 (by omega))
    have H1 := Lib.hid (show btw (j : Int) 0 ((y.code.length : Int) - 1) = true from btw_true.2 (by omega))
    have q2' := old2 q2
    have r0' := old2 r0
    have r1' := old2 r1
    clear ho hy hx
    go_enter Tryz.func202, Tryz.ntmps202
    go_wp2_with fail
    refine (isPlace _ H0.out (by omega) (by omega)).mono ?_
    rintro e w' ⟨rfl, rfl⟩
    go_wp2_with fail
    refine (isPlace _ H1.out (by omega) (by omega)).mono ?_
    rintro e w' ⟨rfl, rfl⟩
    go_wp2
    exact bodyPost_ret (v := .tuple #[.agg #[.int .i64 x.op, .int .i64 x.a], .bool true]) (by simp [results, Tryz.results202, go_sem, *]) rfl ⟨rfl, bl9⟩
end Go.Proofs.YtafgbjnijjlbhaaGreat.Dat

/- Profiles: whether sites are ok for a module, in the program and in the reference. -/
namespace Go.Proofs.YtafgbjnijjlbhaaGreat.Dat
open Go Go.RowKit Go.Proofs.YtafgbjnijjlbhaaGreat.Mem
set_option linter.unusedVariables false
set_option linter.unusedSimpArgs false
/-! ### The order -/
theorem yielded_undef {ops : Array Oper} {tmps : Array Value} {j : Nat} (h : ((ops[j]?).bind (·.dst)).bind (tmps[·]?) = some undef) : yielded ops tmps j = none := by
  unfold yielded
  rw [h]
  rfl
attribute [local go_sem ↓] yielded_undef
def ahead (p : List DSite) (k : Nat) (s : DSite) : Bool := if k = 0 then true else match p[k - 1]? with
  | none => true
  | some q => lessP q.fn q.pc s.fn s.pc
end Go.Proofs.YtafgbjnijjlbhaaGreat.Dat

/- Profiles in the reference: l07Ok. Written by a program (prof3gen.py). -/
namespace Go.Proofs.YtafgbjnijjlbhaaGreat.Dat
open Go Go.RowKit Go.Proofs.YtafgbjnijjlbhaaGreat.Mem
set_option linter.unusedVariables false
set_option linter.unusedSimpArgs false
end Go.Proofs.YtafgbjnijjlbhaaGreat.Dat

/- ProfileOk in the program and in the reference. -/
namespace Go.Proofs.YtafgbjnijjlbhaaGreat.Dat
open Go Go.RowKit Go.Proofs.YtafgbjnijjlbhaaGreat.Mem
set_option linter.unusedVariables false
set_option linter.unusedSimpArgs false
end Go.Proofs.YtafgbjnijjlbhaaGreat.Dat
