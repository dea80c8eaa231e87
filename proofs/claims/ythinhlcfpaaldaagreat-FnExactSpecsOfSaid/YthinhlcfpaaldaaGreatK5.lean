/- A bundle: Cmp Prof Prof3 ProfOk. -/
import Derived.Test.YthinhlcfpaaldaaGreatK3
import Derived.Test.YthinhlcfpaaldaaGreatK4
import Derived.Deep.RegionHeld3
import Derived.IntWalk
/- cmp.Compare, cmp.Or of two numbers; sites and guesses compared by their places; the instruction at a place. -/
namespace Go.Proofs.YthinhlcfpaaldaaGreat.Dat
open Go Go.RowKit Go.Proofs.YthinhlcfpaaldaaGreat.Mem
set_option linter.unusedVariables false
set_option linter.unusedSimpArgs false
theorem old1 {w : World} {p : Addr} {v : Value} (h : w.cell? p = some v) : ∀ o, (w.alloc o).cell? p = some v := fun o => kept ((Below.refl _ _).alloc (Nat.le_refl _) o) h
theorem old2 {w : World} {p : Addr} {v : Value} (h : w.cell? p = some v) : ∀ o o', ((w.alloc o).alloc o').cell? p = some v := fun o o' => old1 (old1 h o) o'
theorem blk_drew {w : World} {g : Nat} {o : Obj} (h : w.heap[g]? = some o) : w.drew.heap[g]? = some o := h
def cmp2 (a b : Int) : Int := if a < b then -1 else if b < a then 1 else 0
def or2 (a b : Int) : Int := if a = 0 then b else a
/-- One place is ahead of another one. -/
def lessP (f p g q : Int) : Bool := decide (f < g) || (decide (f = g) && decide (p < q))
theorem isNaNi (a : Int) (w : World) : Calls Tryz.prog 312 #[.int .i64 a] w fun e w' => e = .returned (.bool false) ∧ w = w' := by
  go_enter Tryz.func312, Tryz.ntmps312
  go_wp2
  go_ret
  exact ⟨by simp, rfl⟩
theorem compareI (a b : Int) (w : World) : Calls Tryz.prog 226 #[.int .i64 a, .int .i64 b] w fun e w' => e = .returned (.int .i64 (cmp2 a b)) ∧ w = w' := by
  by_cases h1 : a < b
  · have e : cmp2 a b = -1 := by simp [cmp2, h1]
    rw [e]
    clear e
    go_enter Tryz.func226, Tryz.ntmps226
    go_wp2_with (go_at_call 312; refine (isNaNi _ _).mono ?_; rintro e w' ⟨rfl, rfl⟩)
    go_ret
    exact ⟨rfl, rfl⟩
  by_cases h2 : b < a
  · have e : cmp2 a b = 1 := by simp [cmp2, h1, h2]
    rw [e]
    clear e
    go_enter Tryz.func226, Tryz.ntmps226
    go_wp2_with (go_at_call 312; refine (isNaNi _ _).mono ?_; rintro e w' ⟨rfl, rfl⟩)
    go_ret
    exact ⟨rfl, rfl⟩
  · have e : cmp2 a b = 0 := by simp [cmp2, h1, h2]
    rw [e]
    clear e
    go_enter Tryz.func226, Tryz.ntmps226
    go_wp2_with (go_at_call 312; refine (isNaNi _ _).mono ?_; rintro e w' ⟨rfl, rfl⟩)
    go_ret
    exact ⟨rfl, rfl⟩
theorem orI (a b : Int) (g c : Nat) (w : World) (h0 : w.cell? ⟨g, 0, none⟩ = some (.int .i64 a)) (h1 : w.cell? ⟨g, 1, none⟩ = some (.int .i64 b)) : Calls Tryz.prog 224 #[.slice (some ⟨g, 0, none⟩) 2 c] w fun e w' => e = .returned (.int .i64 (or2 a b)) ∧ w = w' := by
  by_cases ha : a = 0
  · subst ha
    have e : or2 0 b = b := by simp [or2]
    rw [e]
    clear e
    go_enter Tryz.func224, Tryz.ntmps224
    go_wp2
    go_loopw [8] (fun i wr => (i = .int .i64 0 ∨ i = .int .i64 1 ∨ (i = .int .i64 2 ∧ b = 0)) ∧ w = wr) (fun i _ => 2 - (intOf i).toNat)
    case atStart => exact ⟨.inl rfl, rfl⟩
    case round =>
      obtain ⟨h, rfl⟩ := hrel
      rcases h with rfl | rfl | ⟨rfl, rfl⟩
      · go_wp2
        go_roundw
        case rel => exact ⟨.inr (.inl rfl), trivial⟩
        case measure => simp [intOf]
      · by_cases hb : b = 0
        · subst hb
          go_wp2
          go_roundw
          case rel => simp
          case measure => simp [intOf]
        · have hb2 : (b != 0) = true := by simpa using hb
          clear hb
          go_wp2
          go_ret
          first | exact ⟨rfl, rfl⟩ | exact ⟨rfl, trivial⟩
      · go_wp2
        go_ret
        first | exact ⟨rfl, rfl⟩ | exact ⟨rfl, trivial⟩
  · have e : or2 a b = a := by simp [or2, ha]
    rw [e]
    have ha2 : (a != 0) = true := by simpa using ha
    clear e ha
    go_enter Tryz.func224, Tryz.ntmps224
    go_wp2
    go_loopw [8] (fun i wr => i = .int .i64 0 ∧ w = wr) (fun i _ => 2 - (intOf i).toNat)
    case atStart => exact ⟨rfl, rfl⟩
    case round =>
      obtain ⟨rfl, rfl⟩ := hrel
      go_wp2
      go_ret
      first | exact ⟨rfl, rfl⟩ | exact ⟨rfl, trivial⟩
def isAr (op : Int) : Bool := btw op 11 14
theorem isArith (op a : Int) (w : World) {r : Bool} (h : isAr op = r) : Calls Tryz.prog 253 #[.agg #[.int .i64 op, .int .i64 a]] w fun e w' => e = .returned (.bool r) ∧ Below w.heap.size w w' := by
  have H := Lib.hid h
  clear h
  go_enter Tryz.func253, Tryz.ntmps253
  go_wp2_with fail
  refine (inRange _ H.out).mono ?_
  rintro e w' ⟨rfl, rfl⟩
  go_wp2
  go_ret
  exact ⟨rfl, bl9⟩
/-- The instruction at a place, if there is one. -/
def insO (l : List DFunc) (f p : Int) : Option DIns := if btw f 0 ((l.length : Int) - 1) && btw p 0 (((l.getD f.toNat zFunc).code.length : Int) - 1) then (l.getD f.toNat zFunc).code[p.toNat]? else none
theorem getD_some {α : Type} {l : List α} {k : Nat} {y z : α} (h : l[k]? = some y) : l.getD k z = y := by rw [List.getD_eq_getElem?_getD, h]; rfl
theorem insO_some {l : List DFunc} {f p : Int} {x : DIns} (h : insO l f p = some x) : ∃ (k j : Nat) (y : DFunc), f = k ∧ p = j ∧ l[k]? = some y ∧ y.code[j]? = some x := by
  unfold insO at h
  split at h
  · rename_i hb
    rw [Bool.and_eq_true, btw_true, btw_true] at hb
    have hk : f.toNat < l.length := by omega
    refine ⟨f.toNat, p.toNat, l[f.toNat], by omega, by omega, List.getElem?_eq_getElem hk, ?_⟩
    rw [getD_some (List.getElem?_eq_getElem hk)] at h
    exact h
  · simp at h
theorem insO_none {l : List DFunc} {f p : Int} (h : insO l f p = none) : btw f 0 ((l.length : Int) - 1) = false ∨ ∃ (k : Nat) (y : DFunc), f = k ∧ l[k]? = some y ∧ btw p 0 ((y.code.length : Int) - 1) = false := by
  unfold insO at h
  cases h1 : btw f 0 ((l.length : Int) - 1)
  · exact .inl rfl
  · right
    have h2 := btw_true.1 h1
    have hk : f.toNat < l.length := by omega
    refine ⟨f.toNat, l[f.toNat], by omega, List.getElem?_eq_getElem hk, ?_⟩
    rw [h1, getD_some (List.getElem?_eq_getElem hk)] at h
    cases h3 : btw p 0 ((l[f.toNat].code.length : Int) - 1)
    · rfl
    · have h4 := btw_true.1 h3
      rw [h3] at h
      have h5 : l[f.toNat].code[p.toNat]? = none := by simpa using h
      rw [List.getElem?_eq_none_iff] at h5
      omega
theorem insO_at {l : List DFunc} {k j : Nat} {y : DFunc} {x : DIns} (hy : l[k]? = some y) (hx : y.code[j]? = some x) : insO l k j = some x := by
  have h1 := (List.getElem?_eq_some_iff.1 hy).1
  have h2 := (List.getElem?_eq_some_iff.1 hx).1
  unfold insO
  rw [Int.toNat_natCast, Int.toNat_natCast, getD_some hy, btw_true.2 (by omega), btw_true.2 (by omega)]
  exact hx
set_option maxHeartbeats 4000000 in
set_option maxRecDepth 100000 in
theorem insAtI (A B : Option Addr) (c d : Nat) (t : List ByteArray) (l : List DFunc) (f p : Int) (w : World) (h : HasMod A B t l w) {o : Option DIns} (ho : insO l f p = o) :
    Calls Tryz.prog 252 #[.agg #[.slice A t.length c, .slice B l.length d], .int .i64 f, .int .i64 p] w fun e w' => e = .returned (.tuple #[.agg #[.int .i64 (o.getD zIns).op, .int .i64 (o.getD zIns).a], .bool o.isSome]) ∧ Below w.heap.size w w' := by
  have hm := h.hm
  rcases o with _ | x
  · rcases insO_none ho with h1 | ⟨k, y, rfl, hy, h1⟩
    · have H1 := Lib.hid h1
      clear h1 ho
      go_enter Tryz.func252, Tryz.ntmps252
      go_wp2_with fail
      refine (isPlace _ H1.out (by omega) (by omega)).mono ?_
      rintro e w' ⟨rfl, rfl⟩
      go_wp2
      exact bodyPost_ret (v := .tuple #[.agg #[.int .i64 0, .int .i64 0], .bool false]) (by simp [results, Tryz.results252, go_sem, *]) rfl ⟨rfl, bl9⟩
    · have hk := (List.getElem?_eq_some_iff.1 hy).1
      have hyc := (h.hv y (List.mem_of_getElem? hy)).1
      obtain ⟨ad, A2, c2, rfl, q0, q1, q2, hl2, hr2⟩ := kFunc_at h.hr k y hy
      have H0 := Lib.hid (show btw (k : Int) 0 ((l.length : Int) - 1) = true from btw_true.2 (by omega))
      have H1 := Lib.hid h1
      have q2' := old2 q2
      clear h1 ho hy
      go_enter Tryz.func252, Tryz.ntmps252
      go_wp2_with fail
      refine (isPlace _ H0.out (by omega) (by omega)).mono ?_
      rintro e w' ⟨rfl, rfl⟩
      go_wp2_with fail
      refine (isPlace _ H1.out (by omega) (by omega)).mono ?_
      rintro e w' ⟨rfl, rfl⟩
      go_wp2
      exact bodyPost_ret (v := .tuple #[.agg #[.int .i64 0, .int .i64 0], .bool false]) (by simp [results, Tryz.results252, go_sem, *]) rfl ⟨rfl, bl9⟩
  · obtain ⟨k, j, y, rfl, rfl, hy, hx⟩ := insO_some ho
    have hk := (List.getElem?_eq_some_iff.1 hy).1
    have hj := (List.getElem?_eq_some_iff.1 hx).1
    have hyc := (h.hv y (List.mem_of_getElem? hy)).1
    obtain ⟨ad, A2, c2, rfl, q0, q1, q2, hl2, hr2⟩ := kFunc_at h.hr k y hy
    obtain ⟨ad2, rfl, r0, r1⟩ := kIns_at hr2 j x hx
    have H0 := Lib.hid (show btw (k : Int) 0 ((l.length : Int) - 1) = true from btw_true.2 (by omega))
    have H1 := Lib.hid (show btw (j : Int) 0 ((y.code.length : Int) - 1) = true from btw_true.2 (by omega))
    have q2' := old2 q2
    have r0' := old2 r0
    have r1' := old2 r1
    clear ho hy hx
    go_enter Tryz.func252, Tryz.ntmps252
    go_wp2_with fail
    refine (isPlace _ H0.out (by omega) (by omega)).mono ?_
    rintro e w' ⟨rfl, rfl⟩
    go_wp2_with fail
    refine (isPlace _ H1.out (by omega) (by omega)).mono ?_
    rintro e w' ⟨rfl, rfl⟩
    go_wp2
    exact bodyPost_ret (v := .tuple #[.agg #[.int .i64 x.op, .int .i64 x.a], .bool true]) (by simp [results, Tryz.results252, go_sem, *]) rfl ⟨rfl, bl9⟩
/-! ### The order -/
theorem yielded_undef {ops : Array Oper} {tmps : Array Value} {j : Nat} (h : ((ops[j]?).bind (·.dst)).bind (tmps[·]?) = some undef) : yielded ops tmps j = none := by
  unfold yielded
  rw [h]
  rfl
attribute [local go_sem ↓] yielded_undef
def ahead (p : List DSite) (k : Nat) (s : DSite) : Bool := if k = 0 then true else match p[k - 1]? with
  | none => true
  | some q => lessP q.fn q.pc s.fn s.pc
end Go.Proofs.YthinhlcfpaaldaaGreat.Dat
