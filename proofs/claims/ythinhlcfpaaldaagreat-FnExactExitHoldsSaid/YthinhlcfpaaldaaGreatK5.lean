/- A bundle: Cmp Prof Prof3 ProfOk. -/
import Derived.Test.YthinhlcfpaaldaaGreatK3
import Derived.Test.YthinhlcfpaaldaaGreatK4
import Derived.Deep.RegionHeld3
import Derived.IntWalk
/- cmp.Compare, cmp.Or of two numbers; sites and guesses compared by their places; the instruction at a place. -/
namespace Go.Proofs.YthinhlcfpaaldaaGreat.Dat
open Go Go.RowKit Go.Proofs.YthinhlcfpaaldaaGreat.Mem
set_option linter.unusedVariables false
set_option linter.unusedSimpArgs false
theorem old1 {w : World} {p : Addr} {v : Value} (h : w.cell? p = some v) : ∀ o, (w.alloc o).cell? p = some v := fun o => kept ((Below.refl _ _).alloc (Nat.le_refl _) o) h
theorem old2 {w : World} {p : Addr} {v : Value} (h : w.cell? p = some v) : ∀ o o', ((w.alloc o).alloc o').cell? p = some v := fun o o' => old1 (old1 h o) o'
theorem blk_drew {w : World} {g : Nat} {o : Obj} (h : w.heap[g]? = some o) : w.drew.heap[g]? = some o := h
def cmp2 (a b : Int) : Int := if a < b then -1 else if b < a then 1 else 0
def or2 (a b : Int) : Int := if a = 0 then b else a
/-- One place is ahead of another one. -/
def lessP (f p g q : Int) : Bool := decide (f < g) || (decide (f = g) && decide (p < q))
theorem lessP_of {f p g q : Int} : lessP f p g q = true ↔ f < g ∨ (f = g ∧ p < q) := by simp [lessP]
theorem or2_lt {f p g q : Int} : or2 (cmp2 f g) (cmp2 p q) < 0 ↔ (f < g ∨ (f = g ∧ p < q)) := by
  unfold or2 cmp2
  split <;> split at * <;> (try split at *) <;> (try split) <;> (try split) <;> simp <;> omega
theorem isNaNi (a : Int) (w : World) : Calls Tryz.prog 312 #[.int .i64 a] w fun e w' => e = .returned (.bool false) ∧ w = w' := by
  go_enter Tryz.func312, Tryz.ntmps312
  go_wp2
  go_ret
  exact ⟨by simp, rfl⟩
theorem compareI (a b : Int) (w : World) : Calls Tryz.prog 226 #[.int .i64 a, .int .i64 b] w fun e w' => e = .returned (.int .i64 (cmp2 a b)) ∧ w = w' := by
  by_cases h1 : a < b
  · have e : cmp2 a b = -1 := by simp [cmp2, h1]
    rw [e]
    clear e
    go_enter Tryz.func226, Tryz.ntmps226
    go_wp2_with (go_at_call 312; refine (isNaNi _ _).mono ?_; rintro e w' ⟨rfl, rfl⟩)
    go_ret
    exact ⟨rfl, rfl⟩
  by_cases h2 : b < a
  · have e : cmp2 a b = 1 := by simp [cmp2, h1, h2]
    rw [e]
    clear e
    go_enter Tryz.func226, Tryz.ntmps226
    go_wp2_with (go_at_call 312; refine (isNaNi _ _).mono ?_; rintro e w' ⟨rfl, rfl⟩)
    go_ret
    exact ⟨rfl, rfl⟩
  · have e : cmp2 a b = 0 := by simp [cmp2, h1, h2]
    rw [e]
    clear e
    go_enter Tryz.func226, Tryz.ntmps226
    go_wp2_with (go_at_call 312; refine (isNaNi _ _).mono ?_; rintro e w' ⟨rfl, rfl⟩)
    go_ret
    exact ⟨rfl, rfl⟩
theorem orI (a b : Int) (g c : Nat) (w : World) (h0 : w.cell? ⟨g, 0, none⟩ = some (.int .i64 a)) (h1 : w.cell? ⟨g, 1, none⟩ = some (.int .i64 b)) : Calls Tryz.prog 224 #[.slice (some ⟨g, 0, none⟩) 2 c] w fun e w' => e = .returned (.int .i64 (or2 a b)) ∧ w = w' := by
  by_cases ha : a = 0
  · subst ha
    have e : or2 0 b = b := by simp [or2]
    rw [e]
    clear e
    go_enter Tryz.func224, Tryz.ntmps224
    go_wp2
    go_loopw [8] (fun i wr => (i = .int .i64 0 ∨ i = .int .i64 1 ∨ (i = .int .i64 2 ∧ b = 0)) ∧ w = wr) (fun i _ => 2 - (intOf i).toNat)
    case atStart => exact ⟨.inl rfl, rfl⟩
    case round =>
      obtain ⟨h, rfl⟩ := hrel
      rcases h with rfl | rfl | ⟨rfl, rfl⟩
      · go_wp2
        go_roundw
        case rel => exact ⟨.inr (.inl rfl), trivial⟩
        case measure => simp [intOf]
      · by_cases hb : b = 0
        · subst hb
          go_wp2
          go_roundw
          case rel => simp
          case measure => simp [intOf]
        · have hb2 : (b != 0) = true := by simpa using hb
          clear hb
          go_wp2
          go_ret
          first | exact ⟨rfl, rfl⟩ | exact ⟨rfl, trivial⟩
      · go_wp2
        go_ret
        first | exact ⟨rfl, rfl⟩ | exact ⟨rfl, trivial⟩
  · have e : or2 a b = a := by simp [or2, ha]
    rw [e]
    have ha2 : (a != 0) = true := by simpa using ha
    clear e ha
    go_enter Tryz.func224, Tryz.ntmps224
    go_wp2
    go_loopw [8] (fun i wr => i = .int .i64 0 ∧ w = wr) (fun i _ => 2 - (intOf i).toNat)
    case atStart => exact ⟨rfl, rfl⟩
    case round =>
      obtain ⟨rfl, rfl⟩ := hrel
      go_wp2
      go_ret
      first | exact ⟨rfl, rfl⟩ | exact ⟨rfl, trivial⟩
set_option maxHeartbeats 4000000 in
set_option maxRecDepth 100000 in
theorem compareSites (a b : DSite) (w : World) : Calls Tryz.prog 192 #[.agg #[.int .i64 a.fn, .int .i64 a.pc, .int .i64 a.seen, .int .i64 a.target], .agg #[.int .i64 b.fn, .int .i64 b.pc, .int .i64 b.seen, .int .i64 b.target]] w fun e w' => e = .returned (.int .i64 (or2 (cmp2 a.fn b.fn) (cmp2 a.pc b.pc))) ∧ Below w.heap.size w w' := by
  have hS := ((St.start w).made (.cells #[.int .i64 a.fn, .int .i64 a.pc, .int .i64 a.seen, .int .i64 a.target] 156 (0, 0))).madeAt (.cells #[.int .i64 b.fn, .int .i64 b.pc, .int .i64 b.seen, .int .i64 b.target] 156 (0, 0)) (w.heap.size + 1) (by simp)
  go_enter Tryz.func192, Tryz.ntmps192
  go_wp2
  go_region_held3 (fun w' => w'.cell? ⟨w.heap.size, 0, none⟩ = some (.int .i64 a.fn) ∧ w'.cell? ⟨w.heap.size, 1, none⟩ = some (.int .i64 a.pc) ∧ w'.cell? ⟨w.heap.size + 1, 0, none⟩ = some (.int .i64 b.fn) ∧ w'.cell? ⟨w.heap.size + 1, 1, none⟩ = some (.int .i64 b.pc)) (first | (exact ⟨hS.cell 1 rfl 0, hS.cell 1 rfl 1, hS.cell 0 rfl 0, hS.cell 0 rfl 1⟩) | (exact ⟨hS.drew.cell 1 rfl 0, hS.drew.cell 1 rfl 1, hS.drew.cell 0 rfl 0, hS.drew.cell 0 rfl 1⟩) | go_keep) (first | (go_at_call 226; refine (compareI _ _ _).mono ?_; rintro e w' ⟨rfl, rfl⟩) | (go_at_call 224; refine (orI (cmp2 a.fn b.fn) (cmp2 a.pc b.pc) _ _ _ (by exact blk_cell (blk_drew (blkAt _ _ (by simp))) 0) (by exact blk_cell (blk_drew (blkAt _ _ (by simp))) 1)).mono ?_; rintro e w' ⟨rfl, rfl⟩))
  go_wp2
  go_ret
  exact ⟨rfl, bl9⟩
def isAr (op : Int) : Bool := btw op 11 14
theorem isArith (op a : Int) (w : World) {r : Bool} (h : isAr op = r) : Calls Tryz.prog 253 #[.agg #[.int .i64 op, .int .i64 a]] w fun e w' => e = .returned (.bool r) ∧ Below w.heap.size w w' := by
  have H := Lib.hid h
  clear h
  go_enter Tryz.func253, Tryz.ntmps253
  go_wp2_with fail
  refine (inRange _ H.out).mono ?_
  rintro e w' ⟨rfl, rfl⟩
  go_wp2
  go_ret
  exact ⟨rfl, bl9⟩
/-- The instruction at a place, if there is one. -/
def insO (l : List DFunc) (f p : Int) : Option DIns := if btw f 0 ((l.length : Int) - 1) && btw p 0 (((l.getD f.toNat zFunc).code.length : Int) - 1) then (l.getD f.toNat zFunc).code[p.toNat]? else none
theorem getD_some {α : Type} {l : List α} {k : Nat} {y z : α} (h : l[k]? = some y) : l.getD k z = y := by rw [List.getD_eq_getElem?_getD, h]; rfl
theorem insO_some {l : List DFunc} {f p : Int} {x : DIns} (h : insO l f p = some x) : ∃ (k j : Nat) (y : DFunc), f = k ∧ p = j ∧ l[k]? = some y ∧ y.code[j]? = some x := by
  unfold insO at h
  split at h
  · rename_i hb
    rw [Bool.and_eq_true, btw_true, btw_true] at hb
    have hk : f.toNat < l.length := by omega
    refine ⟨f.toNat, p.toNat, l[f.toNat], by omega, by omega, List.getElem?_eq_getElem hk, ?_⟩
    rw [getD_some (List.getElem?_eq_getElem hk)] at h
    exact h
  · simp at h
theorem insO_none {l : List DFunc} {f p : Int} (h : insO l f p = none) : btw f 0 ((l.length : Int) - 1) = false ∨ ∃ (k : Nat) (y : DFunc), f = k ∧ l[k]? = some y ∧ btw p 0 ((y.code.length : Int) - 1) = false := by
  unfold insO at h
  cases h1 : btw f 0 ((l.length : Int) - 1)
  · exact .inl rfl
  · right
    have h2 := btw_true.1 h1
    have hk : f.toNat < l.length := by omega
    refine ⟨f.toNat, l[f.toNat], by omega, List.getElem?_eq_getElem hk, ?_⟩
    rw [h1, getD_some (List.getElem?_eq_getElem hk)] at h
    cases h3 : btw p 0 ((l[f.toNat].code.length : Int) - 1)
    · rfl
    · have h4 := btw_true.1 h3
      rw [h3] at h
      have h5 : l[f.toNat].code[p.toNat]? = none := by simpa using h
      rw [List.getElem?_eq_none_iff] at h5
      omega
theorem insO_at {l : List DFunc} {k j : Nat} {y : DFunc} {x : DIns} (hy : l[k]? = some y) (hx : y.code[j]? = some x) : insO l k j = some x := by
  have h1 := (List.getElem?_eq_some_iff.1 hy).1
  have h2 := (List.getElem?_eq_some_iff.1 hx).1
  unfold insO
  rw [Int.toNat_natCast, Int.toNat_natCast, getD_some hy, btw_true.2 (by omega), btw_true.2 (by omega)]
  exact hx
set_option maxHeartbeats 4000000 in
set_option maxRecDepth 100000 in
theorem insAtI (A B : Option Addr) (c d : Nat) (t : List ByteArray) (l : List DFunc) (f p : Int) (w : World) (h : HasMod A B t l w) {o : Option DIns} (ho : insO l f p = o) :
    Calls Tryz.prog 252 #[.agg #[.slice A t.length c, .slice B l.length d], .int .i64 f, .int .i64 p] w fun e w' => e = .returned (.tuple #[.agg #[.int .i64 (o.getD zIns).op, .int .i64 (o.getD zIns).a], .bool o.isSome]) ∧ Below w.heap.size w w' := by
  have hm := h.hm
  rcases o with _ | x
  · rcases insO_none ho with h1 | ⟨k, y, rfl, hy, h1⟩
    · have H1 := Lib.hid h1
      clear h1 ho
      go_enter Tryz.func252, Tryz.ntmps252
      go_wp2_with fail
      refine (isPlace _ H1.out (by omega) (by omega)).mono ?_
      rintro e w' ⟨rfl, rfl⟩
      go_wp2
      exact bodyPost_ret (v := .tuple #[.agg #[.int .i64 0, .int .i64 0], .bool false]) (by simp [results, Tryz.results252, go_sem, *]) rfl ⟨rfl, bl9⟩
    · have hk := (List.getElem?_eq_some_iff.1 hy).1
      have hyc := (h.hv y (List.mem_of_getElem? hy)).1
      obtain ⟨ad, A2, c2, rfl, q0, q1, q2, hl2, hr2⟩ := kFunc_at h.hr k y hy
      have H0 := Lib.hid (show btw (k : Int) 0 ((l.length : Int) - 1) = true from btw_true.2 (by omega))
      have H1 := Lib.hid h1
      have q2' := old2 q2
      clear h1 ho hy
      go_enter Tryz.func252, Tryz.ntmps252
      go_wp2_with fail
      refine (isPlace _ H0.out (by omega) (by omega)).mono ?_
      rintro e w' ⟨rfl, rfl⟩
      go_wp2_with fail
      refine (isPlace _ H1.out (by omega) (by omega)).mono ?_
      rintro e w' ⟨rfl, rfl⟩
      go_wp2
      exact bodyPost_ret (v := .tuple #[.agg #[.int .i64 0, .int .i64 0], .bool false]) (by simp [results, Tryz.results252, go_sem, *]) rfl ⟨rfl, bl9⟩
  · obtain ⟨k, j, y, rfl, rfl, hy, hx⟩ := insO_some ho
    have hk := (List.getElem?_eq_some_iff.1 hy).1
    have hj := (List.getElem?_eq_some_iff.1 hx).1
    have hyc := (h.hv y (List.mem_of_getElem? hy)).1
    obtain ⟨ad, A2, c2, rfl, q0, q1, q2, hl2, hr2⟩ := kFunc_at h.hr k y hy
    obtain ⟨ad2, rfl, r0, r1⟩ := kIns_at hr2 j x hx
    have H0 := Lib.hid (show btw (k : Int) 0 ((l.length : Int) - 1) = true from btw_true.2 (by omega))
    have H1 := Lib.hid (show btw (j : Int) 0 ((y.code.length : Int) - 1) = true from btw_true.2 (by omega))
    have q2' := old2 q2
    have r0' := old2 r0
    have r1' := old2 r1
    clear ho hy hx
    go_enter Tryz.func252, Tryz.ntmps252
    go_wp2_with fail
    refine (isPlace _ H0.out (by omega) (by omega)).mono ?_
    rintro e w' ⟨rfl, rfl⟩
    go_wp2_with fail
    refine (isPlace _ H1.out (by omega) (by omega)).mono ?_
    rintro e w' ⟨rfl, rfl⟩
    go_wp2
    exact bodyPost_ret (v := .tuple #[.agg #[.int .i64 x.op, .int .i64 x.a], .bool true]) (by simp [results, Tryz.results252, go_sem, *]) rfl ⟨rfl, bl9⟩
/-- A site of an instruction, in a module of so many functions. -/
def siteX (n : Int) (x : DIns) (s : DSite) : Bool := if x.op = 23 then (if s.seen = 1 then btw s.target 0 (n - 1) else decide (s.seen = 2) && decide (s.target = 0)) else isAr x.op && btw s.seen 1 3 && decide (s.target = 0)
def siteP (n : Int) (s : DSite) : Option DIns → Bool
  | none => false
  | some x => siteX n x s
def siteB (l : List DFunc) (s : DSite) : Bool := siteP l.length s (insO l s.fn s.pc)
set_option maxHeartbeats 4000000 in
set_option maxRecDepth 100000 in
theorem siteI (A B : Option Addr) (c d : Nat) (t : List ByteArray) (l : List DFunc) (s : DSite) (w : World) (h : HasMod A B t l w) :
    Calls Tryz.prog 251 #[.agg #[.slice A t.length c, .slice B l.length d], .agg #[.int .i64 s.fn, .int .i64 s.pc, .int .i64 s.seen, .int .i64 s.target]] w fun e w' => e = .returned (.bool (siteB l s)) ∧ Below w.heap.size w w' := by
  have hm := h.hm
  have hS := ((St.start w).made (.cells #[.slice A t.length c, .slice B l.length d] 36 (0, 0))).madeAt (.cells #[.int .i64 s.fn, .int .i64 s.pc, .int .i64 s.seen, .int .i64 s.target] 156 (0, 0)) (w.heap.size + 1) (by simp)
  obtain ⟨o, ho⟩ : ∃ o, insO l s.fn s.pc = o := ⟨_, rfl⟩
  have C := insAtI A B c d t l s.fn s.pc _ (h.below hS.bel) ho
  have e : siteB l s = siteP l.length s o := by unfold siteB; rw [ho]
  rw [e]
  clear e ho
  obtain ⟨f, p, seen, target⟩ := s
  rcases o with _ | ⟨op, a⟩
  · have C' : Calls _ _ _ _ (fun e w' => e = .returned (.tuple #[.agg #[.int .i64 0, .int .i64 0], .bool false]) ∧ _) := C
    clear C
    go_enter Tryz.func251, Tryz.ntmps251
    go_wp2_with fail
    refine C'.mono ?_
    rintro e w1 ⟨rfl, hb⟩
    go_wp2
    go_ret
    exact ⟨rfl, bl9⟩
  have C' : Calls _ _ _ _ (fun e w' => e = .returned (.tuple #[.agg #[.int .i64 op, .int .i64 a], .bool true]) ∧ _) := C
  clear C
  show Calls _ _ _ _ (fun e w' => e = .returned (.bool (siteX l.length ⟨op, a⟩ ⟨f, p, seen, target⟩)) ∧ _)
  have facts : ∀ w1, Below ((w.alloc (.cells #[.slice A t.length c, .slice B l.length d] 36 (0, 0))).alloc (.cells #[.int .i64 f, .int .i64 p, .int .i64 seen, .int .i64 target] 156 (0, 0))).heap.size ((w.alloc (.cells #[.slice A t.length c, .slice B l.length d] 36 (0, 0))).alloc (.cells #[.int .i64 f, .int .i64 p, .int .i64 seen, .int .i64 target] 156 (0, 0))) w1 → St w [Res.box (w.heap.size + 1) (.cells #[.int .i64 f, .int .i64 p, .int .i64 seen, .int .i64 target] 156 (0, 0)), Res.box w.heap.size (.cells #[.slice A t.length c, .slice B l.length d] 36 (0, 0))] w1 := fun w1 hb => hS.step hb
  have HF := Lib.hid facts
  clear facts hS
  by_cases h23 : op = 23
  · subst h23
    by_cases h1 : seen = 1
    · subst h1
      go_enter Tryz.func251, Tryz.ntmps251
      go_wp2_with fail
      refine C'.mono ?_
      rintro e w1 ⟨rfl, hb⟩
      have hS := HF.out w1 hb
      have x0 := hS.cell 0 rfl
      have x1 := hS.cell 1 rfl
      have y0 := hS.blt 0 rfl
      have y1 := hS.blt 1 rfl
      clear C'
      go_wp2_with fail
      refine (isPlace (r := btw target 0 ((l.length : Int) - 1)) _ rfl (by omega) (by omega)).mono ?_
      rintro e w' ⟨rfl, rfl⟩
      go_wp2
      go_ret
      exact ⟨ret_bool (by rw [Bool.eq_iff_iff]; simp [siteX]), bl9⟩
    · have hs : (seen == 1) = false := by simpa using h1
      by_cases h2 : seen = 2
      · subst h2
        clear h1
        go_enter Tryz.func251, Tryz.ntmps251
        go_wp2_with fail
        refine C'.mono ?_
        rintro e w1 ⟨rfl, hb⟩
        have hS := HF.out w1 hb
        have x0 := hS.cell 0 rfl
        have x1 := hS.cell 1 rfl
        have y0 := hS.blt 0 rfl
        have y1 := hS.blt 1 rfl
        clear C'
        go_wp2
        go_ret
        exact ⟨ret_bool (by rw [Bool.eq_iff_iff]; simp [siteX]), bl9⟩
      · have hs2 : (seen == 2) = false := by simpa using h2
        have E := Lib.hid (show siteX l.length ⟨23, a⟩ ⟨f, p, seen, target⟩ = false by simp [siteX, h1, h2])
        clear h1 h2
        go_enter Tryz.func251, Tryz.ntmps251
        go_wp2_with fail
        refine C'.mono ?_
        rintro e w1 ⟨rfl, hb⟩
        have hS := HF.out w1 hb
        have x0 := hS.cell 0 rfl
        have x1 := hS.cell 1 rfl
        have y0 := hS.blt 0 rfl
        have y1 := hS.blt 1 rfl
        clear C'
        go_wp2
        go_ret
        exact ⟨ret_bool E.out.symm, bl9⟩
  · have hop : (op == 23) = false := by simpa using h23
    have E := Lib.hid (show siteX l.length ⟨op, a⟩ ⟨f, p, seen, target⟩ = (isAr op && btw seen 1 3 && decide (target = 0)) by simp [siteX, h23])
    clear h23
    cases h1 : isAr op
    · have E2 := Lib.hid (show siteX l.length ⟨op, a⟩ ⟨f, p, seen, target⟩ = false by rw [E.out, h1]; rfl)
      have H1 := Lib.hid h1
      clear h1
      go_enter Tryz.func251, Tryz.ntmps251
      go_wp2_with fail
      refine C'.mono ?_
      rintro e w1 ⟨rfl, hb⟩
      have hS := HF.out w1 hb
      have x0 := hS.cell 0 rfl
      have x1 := hS.cell 1 rfl
      have y0 := hS.blt 0 rfl
      have y1 := hS.blt 1 rfl
      clear C'
      go_wp2_with fail
      refine (isArith _ _ _ H1.out).mono ?_
      rintro e w2 ⟨rfl, hb2⟩
      go_wp2
      go_ret
      exact ⟨ret_bool E2.out.symm, bl9⟩
    have H1 := Lib.hid h1
    rw [h1] at E
    clear h1
    go_enter Tryz.func251, Tryz.ntmps251
    go_wp2_with fail
    refine C'.mono ?_
    rintro e w1 ⟨rfl, hb⟩
    have hS := HF.out w1 hb
    have x0 := hS.cell 0 rfl
    have x1 := hS.cell 1 rfl
    have y0 := hS.blt 0 rfl
    have y1 := hS.blt 1 rfl
    clear C'
    cases h3 : btw seen 1 3
    · have E2 := Lib.hid (show siteX l.length ⟨op, a⟩ ⟨f, p, seen, target⟩ = false by rw [E.out, h3]; rfl)
      have H3 := Lib.hid h3
      clear h3
      go_wp2_with fail
      refine (isArith _ _ _ H1.out).mono ?_
      rintro e w2 ⟨rfl, hb2⟩
      obtain ⟨hc2, hf2⟩ := bcell hb2
      have hz2 := hb2.size
      simp at hz2
      have z0 : w.heap.size < w2.heap.size := by omega
      have z1 : w.heap.size + 1 < w2.heap.size := by omega
      have z2 : w.heap.size < w1.heap.size + 1 := by omega
      have z3 : w.heap.size + 1 < w1.heap.size + 1 := by omega
      go_wp2_with fail
      refine (inRange _ H3.out).mono ?_
      rintro e w3 ⟨rfl, rfl⟩
      go_wp2
      go_ret
      exact ⟨ret_bool E2.out.symm, bl9⟩
    · have E2 := Lib.hid (show siteX l.length ⟨op, a⟩ ⟨f, p, seen, target⟩ = decide (target = 0) by rw [E.out, h3]; simp)
      have H3 := Lib.hid h3
      clear h3
      go_wp2_with fail
      refine (isArith _ _ _ H1.out).mono ?_
      rintro e w2 ⟨rfl, hb2⟩
      obtain ⟨hc2, hf2⟩ := bcell hb2
      have hz2 := hb2.size
      simp at hz2
      have z0 : w.heap.size < w2.heap.size := by omega
      have z1 : w.heap.size + 1 < w2.heap.size := by omega
      have z2 : w.heap.size < w1.heap.size + 1 := by omega
      have z3 : w.heap.size + 1 < w1.heap.size + 1 := by omega
      go_wp2_with fail
      refine (inRange _ H3.out).mono ?_
      rintro e w3 ⟨rfl, rfl⟩
      go_wp2
      go_ret
      exact ⟨ret_bool (by rw [E2.out, Bool.eq_iff_iff]; simp), bl9⟩
theorem siteI' (A B : Option Addr) (c d : Nat) (t : List ByteArray) (l : List DFunc) (s : DSite) (w : World) (h : HasMod A B t l w) {r : Bool} (hr : siteB l s = r) :
    Calls Tryz.prog 251 #[.agg #[.slice A t.length c, .slice B l.length d], .agg #[.int .i64 s.fn, .int .i64 s.pc, .int .i64 s.seen, .int .i64 s.target]] w fun e w' => e = .returned (.bool r) ∧ Below w.heap.size w w' := hr ▸ siteI A B c d t l s w h
/-! ### The order -/
theorem yielded_undef {ops : Array Oper} {tmps : Array Value} {j : Nat} (h : ((ops[j]?).bind (·.dst)).bind (tmps[·]?) = some undef) : yielded ops tmps j = none := by
  unfold yielded
  rw [h]
  rfl
attribute [local go_sem ↓] yielded_undef
def ahead (p : List DSite) (k : Nat) (s : DSite) : Bool := if k = 0 then true else match p[k - 1]? with
  | none => true
  | some q => lessP q.fn q.pc s.fn s.pc
def profAt (l : List DFunc) (p : List DSite) (k : Nat) : Bool := match p[k]? with
  | none => true
  | some s => siteB l s && ahead p k s
def profB (l : List DFunc) (p : List DSite) : Bool := decide ((p.length : Int) ≤ 150) && (List.range p.length).all (profAt l p)
theorem profAt_of {l : List DFunc} {p : List DSite} {k : Nat} {s : DSite} (hs : p[k]? = some s) : profAt l p k = (siteB l s && ahead p k s) := by unfold profAt; rw [hs]
theorem ahead_s {p : List DSite} {k : Nat} {s q : DSite} (hq : p[k]? = some q) : ahead p (k + 1) s = lessP q.fn q.pc s.fn s.pc := by unfold ahead; rw [if_neg (by omega), Nat.add_sub_cancel, hq]
theorem prof_no {l : List DFunc} {p : List DSite} {k : Nat} (hk : k < p.length) (h : profAt l p k = false) : profB l p = false := by
  unfold profB
  rw [Bool.and_eq_false_iff]
  right
  rw [Bool.eq_false_iff]
  intro h2
  have := List.all_eq_true.1 h2 k (List.mem_range.2 hk)
  rw [h] at this
  cases this
theorem prof_all {l : List DFunc} {p : List DSite} (h : ∀ j, j < p.length → profAt l p j = true) : profB l p = decide ((p.length : Int) ≤ 150) := by
  unfold profB
  have : (List.range p.length).all (profAt l p) = true := List.all_eq_true.2 (fun j hj => h j (List.mem_range.1 hj))
  rw [this, Bool.and_true]
theorem upto_step {P : Nat → Bool} {k : Nat} (h : ∀ j, j < k → P j = true) (hk : P k = true) : ∀ j, j < k + 1 → P j = true := fun j hj => by
  rcases Nat.lt_or_ge j k with h1 | h1
  · exact h j h1
  · obtain rfl : j = k := by omega
    exact hk
theorem ge0_true {f p g q : Int} (h : lessP f p g q = false) : 0 ≤ or2 (cmp2 f g) (cmp2 p q) := by
  have h1 : ¬ (or2 (cmp2 f g) (cmp2 p q) < 0) := fun h2 => by
    have := lessP_of.2 (or2_lt.1 h2)
    rw [h] at this
    cases this
  omega
set_option maxHeartbeats 4000000 in
set_option maxRecDepth 100000 in
theorem profI (A B D : Option Addr) (c d e0 : Nat) (t : List ByteArray) (l : List DFunc) (p : List DSite) (w : World) (h : HasMod A B t l w) (hr : kSite.Row w D p.length p) (hp : p.length ≤ 1048576) :
    Calls Tryz.prog 151 #[.agg #[.slice A t.length c, .slice B l.length d], .slice D p.length e0] w fun e w' => e = .returned (.bool (profB l p)) ∧ Below w.heap.size w w' := by
  have hS0 := (St.start w).made (.cells #[.slice A t.length c, .slice B l.length d] 36 (0, 0))
  go_enter Tryz.func151, Tryz.ntmps151
  go_wp2
  go_loopw [9] (fun i wr => ∃ k : Nat, k ≤ p.length ∧ i = .int .i64 k ∧ Hid (∀ j, j < k → profAt l p j = true) ∧ St w [Res.box w.heap.size (.cells #[.slice A t.length c, .slice B l.length d] 36 (0, 0))] wr) (fun i _ => p.length - (intOf i).toNat)
  case atStart => exact ⟨0, by omega, rfl, Lib.hid (fun j hj => absurd hj (by omega)), hS0⟩
  case round =>
    clear hS0
    obtain ⟨k, hk, rfl, ho, hS⟩ := hrel
    by_cases hlt : k < p.length
    · obtain ⟨s, hx⟩ := get_exU p k hlt
      obtain ⟨ad, rfl, q0, q1, q2, q3⟩ := kSite_at (hr.below hS.bel) k s hx
      have hpa := profAt_of (l := l) hx
      have hS1 := hS.made (.cells #[.int .i64 s.fn, .int .i64 s.pc, .int .i64 s.seen, .int .i64 s.target] 156 (0, 0))
      have hSd := hS1.drew
      have HX := Lib.hid hx
      clear hx
      cases hs : siteB l s
      · have HE := Lib.hid (prof_no hlt (hpa.trans (by rw [hs]; rfl)))
        have H1 := Lib.hid hs
        clear hs hpa ho
        go_wp2
        clear q0 q1 q2 q3
        refine wp_region_held_drew (S := (fun w' => w'.cell? ⟨w.heap.size, 0, none⟩ = some (.slice A t.length c) ∧ w'.cell? ⟨w.heap.size, 1, none⟩ = some (.slice B l.length d) ∧ w'.cell? ⟨wr.heap.size, 0, none⟩ = some (.int .i64 s.fn) ∧ w'.cell? ⟨wr.heap.size, 1, none⟩ = some (.int .i64 s.pc) ∧ w'.cell? ⟨wr.heap.size, 2, none⟩ = some (.int .i64 s.seen) ∧ w'.cell? ⟨wr.heap.size, 3, none⟩ = some (.int .i64 s.target))) (by kernel_rfl) (⟨hSd.cell 1 rfl 0, hSd.cell 1 rfl 1, hSd.cell 0 rfl 0, hSd.cell 0 rfl 1, hSd.cell 0 rfl 2, hSd.cell 0 rfl 3⟩) (fun hHeld => ?_)
        (iterate 2 (first | refine rQ1 ?_ | refine rQ2 ?_); try simp only [pP])
        refine regC 2 rfl (by kernel_rfl) (by rfl) (fun Kq hKq => ?_)
        go_simp
        (with_reducible refine (siteI' A B c d t l s _ (h.below hSd.bel) H1.out).mono ?_)
        rintro e w2 ⟨rfl, hb⟩; have hS2 := hSd.step hb; clear hb
        try go_wp2_with fail
        refine hKq.out _ _ (⟨hS2.cell 1 rfl 0, hS2.cell 1 rfl 1, hS2.cell 0 rfl 0, hS2.cell 0 rfl 1, hS2.cell 0 rfl 2, hS2.cell 0 rfl 3⟩) (fun hHeld => ?_)
        clear hKq Kq
        (try simp only [pP])
        (iterate 2 (first | refine rQ1 ?_ | refine rQ2 ?_); try simp only [pP])
        refine regS (fun _ _ _ d h => by cases d <;> exact h) [5, 6, 7, 8, 9, 10, 11, 12, 13, 14, 15, 16] _ _ _ rfl (by kernel_rfl) (by assumption) ?_
        simp only [skipL, List.getElem?_cons_zero, List.getElem?_cons_succ, Option.bind_some, pP]
        (first | refine rQ1 ?_ | refine rQ2 ?_); (try simp only [pP])
        refine wpAnyH_done (by kernel_rfl) ?_ _
        go_wp2
        go_ret
        exact ⟨ret_bool HE.out.symm, hS2.bel⟩
      · have H1 := Lib.hid hs
        by_cases hk0 : 0 < k
        · obtain ⟨j, rfl⟩ : ∃ j, k = j + 1 := ⟨k - 1, by omega⟩
          obtain ⟨q, hq⟩ := get_exU p j (by omega)
          obtain ⟨ad', e', r0, r1, r2, r3⟩ := kSite_at hr j q hq
          cases e'
          have hpa2 : profAt l p (j + 1) = lessP q.fn q.pc s.fn s.pc := by rw [hpa, hs, ahead_s hq]; rfl
          have j0 : (0 : Int) ≤ (j : Int) := by omega
          have j1 : (j : Int) < p.length := by omega
          obtain ⟨k, hjk⟩ : ∃ k, j + 1 = k := ⟨_, rfl⟩
          rw [hjk] at hlt hk hpa2 q0 q1 q2 q3 ho ⊢
          have e1 : (k : Int) - 1 = (j : Int) := by omega
          have e2 : (0 : Int) < (k : Int) := by omega
          have e3 : 0 < k := by omega
          have e4 : IntKind.i64.wrap (j : Int) = (j : Int) := IntWalk.i64_in _ (by omega)
          have HK := Lib.hid hjk
          clear hq hpa hs hjk HX hk0
          cases hl : lessP q.fn q.pc s.fn s.pc
          · have HE := Lib.hid (prof_no hlt (hpa2.trans hl))
            have G := ge0_true hl
            clear hl hpa2 ho
            go_wp2
            clear q0 q1 q2 q3
            refine wp_region_held_drew (S := (fun w' => w'.cell? ⟨w.heap.size, 0, none⟩ = some (.slice A t.length c) ∧ w'.cell? ⟨w.heap.size, 1, none⟩ = some (.slice B l.length d) ∧ w'.cell? ⟨wr.heap.size, 0, none⟩ = some (.int .i64 s.fn) ∧ w'.cell? ⟨wr.heap.size, 1, none⟩ = some (.int .i64 s.pc) ∧ w'.cell? ⟨wr.heap.size, 2, none⟩ = some (.int .i64 s.seen) ∧ w'.cell? ⟨wr.heap.size, 3, none⟩ = some (.int .i64 s.target) ∧ w'.cell? (ad.add (j * 4)) = some (.int .i64 q.fn) ∧ w'.cell? ⟨(ad.add (j * 4)).block, (ad.add (j * 4)).off + 1, none⟩ = some (.int .i64 q.pc) ∧ w'.cell? ⟨(ad.add (j * 4)).block, (ad.add (j * 4)).off + 2, none⟩ = some (.int .i64 q.seen) ∧ w'.cell? ⟨(ad.add (j * 4)).block, (ad.add (j * 4)).off + 3, none⟩ = some (.int .i64 q.target))) (by kernel_rfl) (⟨hSd.cell 1 rfl 0, hSd.cell 1 rfl 1, hSd.cell 0 rfl 0, hSd.cell 0 rfl 1, hSd.cell 0 rfl 2, hSd.cell 0 rfl 3, kept hSd.bel r0, kept hSd.bel r1, kept hSd.bel r2, kept hSd.bel r3⟩) (fun hHeld => ?_)
            (iterate 2 (first | refine rQ1 ?_ | refine rQ2 ?_); try simp only [pP])
            refine regC 2 rfl (by kernel_rfl) (by rfl) (fun Kq hKq => ?_)
            go_simp
            (with_reducible refine (siteI' A B c d t l s _ (h.below hSd.bel) H1.out).mono ?_)
            rintro e w2 ⟨rfl, hb⟩; have hS2 := hSd.step hb; clear hb
            try go_wp2_with fail
            refine hKq.out _ _ (⟨hS2.cell 1 rfl 0, hS2.cell 1 rfl 1, hS2.cell 0 rfl 0, hS2.cell 0 rfl 1, hS2.cell 0 rfl 2, hS2.cell 0 rfl 3, kept hS2.bel r0, kept hS2.bel r1, kept hS2.bel r2, kept hS2.bel r3⟩) (fun hHeld => ?_)
            clear hKq Kq
            (try simp only [pP])
            (iterate 11 (first | refine rQ1 ?_ | refine rQ2 ?_); try simp only [pP])
            refine regC 14 rfl (by kernel_rfl) (by rfl) (fun Kq hKq => ?_)
            go_simp
            (with_reducible refine (compareSites q s _).mono ?_)
            rintro e w3 ⟨rfl, hb⟩; have hS3 := hS2.step hb; clear hb
            try go_wp2_with fail
            refine hKq.out _ _ (⟨hS3.cell 1 rfl 0, hS3.cell 1 rfl 1, hS3.cell 0 rfl 0, hS3.cell 0 rfl 1, hS3.cell 0 rfl 2, hS3.cell 0 rfl 3, kept hS3.bel r0, kept hS3.bel r1, kept hS3.bel r2, kept hS3.bel r3⟩) (fun hHeld => ?_)
            clear hKq Kq
            (try simp only [pP])
            (iterate 3 (first | refine rQ1 ?_ | refine rQ2 ?_); try simp only [pP])
            refine wpAnyH_done (by kernel_rfl) ?_ _
            go_wp2
            go_ret
            exact ⟨ret_bool HE.out.symm, hS3.bel⟩
          · have HN := Lib.hid (upto_step ho.out (hpa2.trans hl))
            have G2 : or2 (cmp2 q.fn s.fn) (cmp2 q.pc s.pc) < 0 := or2_lt.2 (lessP_of.1 hl)
            clear hl hpa2 ho
            go_wp2
            clear q0 q1 q2 q3
            refine wp_region_held_drew (S := (fun w' => w'.cell? ⟨w.heap.size, 0, none⟩ = some (.slice A t.length c) ∧ w'.cell? ⟨w.heap.size, 1, none⟩ = some (.slice B l.length d) ∧ w'.cell? ⟨wr.heap.size, 0, none⟩ = some (.int .i64 s.fn) ∧ w'.cell? ⟨wr.heap.size, 1, none⟩ = some (.int .i64 s.pc) ∧ w'.cell? ⟨wr.heap.size, 2, none⟩ = some (.int .i64 s.seen) ∧ w'.cell? ⟨wr.heap.size, 3, none⟩ = some (.int .i64 s.target) ∧ w'.cell? (ad.add (j * 4)) = some (.int .i64 q.fn) ∧ w'.cell? ⟨(ad.add (j * 4)).block, (ad.add (j * 4)).off + 1, none⟩ = some (.int .i64 q.pc) ∧ w'.cell? ⟨(ad.add (j * 4)).block, (ad.add (j * 4)).off + 2, none⟩ = some (.int .i64 q.seen) ∧ w'.cell? ⟨(ad.add (j * 4)).block, (ad.add (j * 4)).off + 3, none⟩ = some (.int .i64 q.target))) (by kernel_rfl) (⟨hSd.cell 1 rfl 0, hSd.cell 1 rfl 1, hSd.cell 0 rfl 0, hSd.cell 0 rfl 1, hSd.cell 0 rfl 2, hSd.cell 0 rfl 3, kept hSd.bel r0, kept hSd.bel r1, kept hSd.bel r2, kept hSd.bel r3⟩) (fun hHeld => ?_)
            (iterate 2 (first | refine rQ1 ?_ | refine rQ2 ?_); try simp only [pP])
            refine regC 2 rfl (by kernel_rfl) (by rfl) (fun Kq hKq => ?_)
            go_simp
            (with_reducible refine (siteI' A B c d t l s _ (h.below hSd.bel) H1.out).mono ?_)
            rintro e w2 ⟨rfl, hb⟩; have hS2 := hSd.step hb; clear hb
            try go_wp2_with fail
            refine hKq.out _ _ (⟨hS2.cell 1 rfl 0, hS2.cell 1 rfl 1, hS2.cell 0 rfl 0, hS2.cell 0 rfl 1, hS2.cell 0 rfl 2, hS2.cell 0 rfl 3, kept hS2.bel r0, kept hS2.bel r1, kept hS2.bel r2, kept hS2.bel r3⟩) (fun hHeld => ?_)
            clear hKq Kq
            (try simp only [pP])
            (iterate 11 (first | refine rQ1 ?_ | refine rQ2 ?_); try simp only [pP])
            refine regC 14 rfl (by kernel_rfl) (by rfl) (fun Kq hKq => ?_)
            go_simp
            (with_reducible refine (compareSites q s _).mono ?_)
            rintro e w3 ⟨rfl, hb⟩; have hS3 := hS2.step hb; clear hb
            try go_wp2_with fail
            refine hKq.out _ _ (⟨hS3.cell 1 rfl 0, hS3.cell 1 rfl 1, hS3.cell 0 rfl 0, hS3.cell 0 rfl 1, hS3.cell 0 rfl 2, hS3.cell 0 rfl 3, kept hS3.bel r0, kept hS3.bel r1, kept hS3.bel r2, kept hS3.bel r3⟩) (fun hHeld => ?_)
            clear hKq Kq
            (try simp only [pP])
            (iterate 3 (first | refine rQ1 ?_ | refine rQ2 ?_); try simp only [pP])
            refine wpAnyH_done (by kernel_rfl) ?_ _
            go_wp2
            go_roundw
            case rel => exact ⟨k + 1, by omega, by go_num, HN, hS3.drop⟩
            case measure => simp [intOf]; omega
        · have HN := Lib.hid (upto_step ho.out (hpa.trans (by rw [hs, ahead, if_pos (by omega)]; rfl)))
          have e2 : ((0 : Int) < (k : Int)) = False := eq_false (by omega)
          have e3 : (0 < k) = False := eq_false (by omega)
          clear hs hpa ho hk0
          go_wp2
          clear q0 q1 q2 q3
          refine wp_region_held_drew (S := (fun w' => w'.cell? ⟨w.heap.size, 0, none⟩ = some (.slice A t.length c) ∧ w'.cell? ⟨w.heap.size, 1, none⟩ = some (.slice B l.length d) ∧ w'.cell? ⟨wr.heap.size, 0, none⟩ = some (.int .i64 s.fn) ∧ w'.cell? ⟨wr.heap.size, 1, none⟩ = some (.int .i64 s.pc) ∧ w'.cell? ⟨wr.heap.size, 2, none⟩ = some (.int .i64 s.seen) ∧ w'.cell? ⟨wr.heap.size, 3, none⟩ = some (.int .i64 s.target))) (by kernel_rfl) (⟨hSd.cell 1 rfl 0, hSd.cell 1 rfl 1, hSd.cell 0 rfl 0, hSd.cell 0 rfl 1, hSd.cell 0 rfl 2, hSd.cell 0 rfl 3⟩) (fun hHeld => ?_)
          (iterate 2 (first | refine rQ1 ?_ | refine rQ2 ?_); try simp only [pP])
          refine regC 2 rfl (by kernel_rfl) (by rfl) (fun Kq hKq => ?_)
          go_simp
          (with_reducible refine (siteI' A B c d t l s _ (h.below hSd.bel) H1.out).mono ?_)
          rintro e w2 ⟨rfl, hb⟩; have hS2 := hSd.step hb; clear hb
          try go_wp2_with fail
          refine hKq.out _ _ (⟨hS2.cell 1 rfl 0, hS2.cell 1 rfl 1, hS2.cell 0 rfl 0, hS2.cell 0 rfl 1, hS2.cell 0 rfl 2, hS2.cell 0 rfl 3⟩) (fun hHeld => ?_)
          clear hKq Kq
          (try simp only [pP])
          (iterate 5 (first | refine rQ1 ?_ | refine rQ2 ?_); try simp only [pP])
          refine regS (fun _ _ _ d h => by cases d <;> exact h) [8, 9, 10, 11, 12, 13, 14, 15] _ _ _ rfl (by kernel_rfl) (by assumption) ?_
          simp only [skipL, List.getElem?_cons_zero, List.getElem?_cons_succ, Option.bind_some, pP]
          (iterate 2 (first | refine rQ1 ?_ | refine rQ2 ?_); try simp only [pP])
          refine wpAnyH_done (by kernel_rfl) ?_ _
          go_wp2
          go_roundw
          case rel => exact ⟨k + 1, by omega, by go_num, HN, hS2.drop⟩
          case measure => simp [intOf]; omega
    · obtain rfl : k = p.length := by omega
      have HE := Lib.hid (prof_all ho.out)
      clear ho
      go_wp2
      go_ret
      exact ⟨ret_bool HE.out.symm, hS.bel⟩
def is07 (op : Int) : Bool := isAr op || decide (op = 23)
set_option maxHeartbeats 1000000 in
theorem l07Is (op : Int) (w : World) {r : Bool} (h : is07 op = r) : Calls Tryz.prog 235 #[.int .i64 op] w fun e w' => e = .returned (.bool r) ∧ w = w' := by
  by_cases hc : op = 11 ∨ op = 12 ∨ op = 13 ∨ op = 14 ∨ op = 23
  · rcases hc with rfl | rfl | rfl | rfl | rfl
    all_goals
      subst h
      go_enter Tryz.func235, Tryz.ntmps235
      go_wp2
      go_ret
      exact ⟨by simp [is07, isAr, btw], rfl⟩
  · have m1 : (op == 11) = false := by simp; omega
    have m2 : (op == 12) = false := by simp; omega
    have m3 : (op == 13) = false := by simp; omega
    have m4 : (op == 14) = false := by simp; omega
    have m5 : (op == 23) = false := by simp; omega
    have hr : r = false := by
      rw [← h]
      unfold is07 isAr
      rw [btw_false.2 (by omega), decide_eq_false (by omega)]
      rfl
    subst hr
    clear h hc
    go_enter Tryz.func235, Tryz.ntmps235
    go_wp2
    go_ret
    exact ⟨rfl, rfl⟩
set_option maxHeartbeats 1000000 in
theorem l07Less (a b : DSite) (w : World) {r : Bool} (h : lessP a.fn a.pc b.fn b.pc = r) : Calls Tryz.prog 234 #[.agg #[.int .i64 a.fn, .int .i64 a.pc, .int .i64 a.seen, .int .i64 a.target], .agg #[.int .i64 b.fn, .int .i64 b.pc, .int .i64 b.seen, .int .i64 b.target]] w fun e w' => e = .returned (.bool r) ∧ Below w.heap.size w w' := by
  obtain ⟨f, p, s, t⟩ := a
  obtain ⟨g, q, s', t'⟩ := b
  subst h
  by_cases h1 : f < g
  · go_enter Tryz.func234, Tryz.ntmps234
    go_wp2
    go_ret
    exact ⟨ret_bool (by simp [lessP, h1]), bl9⟩
  · by_cases h2 : f = g
    · subst h2
      go_enter Tryz.func234, Tryz.ntmps234
      go_wp2
      go_ret
      exact ⟨ret_bool (by simp [lessP]), bl9⟩
    · have h3 : (f == g) = false := by simpa using h2
      have E := Lib.hid (show lessP f p g q = false by simp [lessP, h1, h2])
      clear h2
      go_enter Tryz.func234, Tryz.ntmps234
      go_wp2
      go_ret
      exact ⟨ret_bool E.out.symm, bl9⟩
theorem siteB_of {l : List DFunc} {s : DSite} {k j : Nat} {y : DFunc} {x : DIns} (hy : l[k]? = some y) (hx : y.code[j]? = some x) (h1 : s.fn = k) (h2 : s.pc = j) : siteB l s = siteX l.length x s := by
  unfold siteB
  rw [h1, h2, insO_at hy hx]
  rfl
theorem siteB_f {l : List DFunc} {s : DSite} (h : btw s.fn 0 ((l.length : Int) - 1) = false) : siteB l s = false := by
  unfold siteB insO
  rw [h]
  rfl
theorem siteB_p {l : List DFunc} {s : DSite} {k : Nat} {y : DFunc} (hy : l[k]? = some y) (h1 : s.fn = k) (h : btw s.pc 0 ((y.code.length : Int) - 1) = false) : siteB l s = false := by
  unfold siteB insO
  rw [h1, Int.toNat_natCast, getD_some hy, h, Bool.and_false]
  rfl
theorem siteX_no {n : Int} {op a f pc seen target : Int} (h : is07 op = false) : siteX n ⟨op, a⟩ ⟨f, pc, seen, target⟩ = false := by
  unfold is07 at h
  rw [Bool.or_eq_false_iff] at h
  have h2 := of_decide_eq_false h.2
  simp [siteX, h2, h.1]
theorem siteX_seen {n : Int} {op a f pc seen target : Int} (h : btw seen 1 3 = false) : siteX n ⟨op, a⟩ ⟨f, pc, seen, target⟩ = false := by
  have h1 : seen ≠ 1 := fun e => by rw [e] at h; simp [btw] at h
  have h2 : seen ≠ 2 := fun e => by rw [e] at h; simp [btw] at h
  simp [siteX, h, h1, h2]
set_option maxHeartbeats 8000000 in
set_option maxRecDepth 100000 in
theorem prof3 (A B D : Option Addr) (c d e0 : Nat) (t : List ByteArray) (l : List DFunc) (p : List DSite) (w : World) (h : HasMod A B t l w) (hr : kSite.Row w D p.length p) (hp : p.length ≤ 1048576) :
    Calls Tryz.prog 145 #[.agg #[.slice A t.length c, .slice B l.length d], .slice D p.length e0] w fun e w' => e = .returned (.bool (profB l p)) ∧ Below w.heap.size w w' := by
  have hm := h.hm
  by_cases h150 : (p.length : Int) ≤ 150
  rotate_left
  · have HE := Lib.hid (show profB l p = false by unfold profB; rw [decide_eq_false h150]; rfl)
    go_enter Tryz.func145, Tryz.ntmps145
    go_wp2
    go_ret
    exact ⟨ret_bool HE.out.symm, bl9⟩
  have hS0 := (St.start w).made (.cells #[.slice A t.length c, .slice B l.length d] 36 (0, 0))
  go_enter Tryz.func145, Tryz.ntmps145
  go_wp2
  go_loopw [5] (fun i wr => ∃ k : Nat, k ≤ p.length ∧ i = .int .i64 k ∧ Hid (∀ j, j < k → profAt l p j = true) ∧ St w [Res.box w.heap.size (.cells #[.slice A t.length c, .slice B l.length d] 36 (0, 0))] wr) (fun i _ => p.length - (intOf i).toNat)
  case atStart => exact ⟨0, by omega, rfl, Lib.hid (fun j hj => absurd hj (by omega)), hS0⟩
  case round =>
    clear hS0
    obtain ⟨k, hk, rfl, ho, hS⟩ := hrel
    by_cases hlt : k < p.length
    rotate_left
    · obtain rfl : k = p.length := by omega
      have HE := Lib.hid ((prof_all ho.out).trans (decide_eq_true h150))
      clear ho
      go_wp2
      go_ret
      exact ⟨ret_bool HE.out.symm, hS.bel⟩
    obtain ⟨⟨f, pc, seen, target⟩, hx⟩ := get_exU p k hlt
    obtain ⟨ad, rfl, q0, q1, q2, q3⟩ := kSite_at (hr.below hS.bel) k _ hx
    simp only at q0 q1 q2 q3
    have hpa := profAt_of (l := l) hx
    have hS1 := hS.made (.cells #[.int .i64 f, .int .i64 pc, .int .i64 seen, .int .i64 target] 156 (0, 0))
    have hSd := hS1.drew
    have HX := Lib.hid hx
    clear hx
    by_cases hk0 : 0 < k
    rotate_left
    · have e2 : ((0 : Int) < (k : Int)) = False := eq_false (by omega)
      have e3 : (0 < k) = False := eq_false (by omega)
      have hah : ahead p k ⟨f, pc, seen, target⟩ = true := by rw [ahead, if_pos (by omega)]
      clear hk0
      have i1 : IntKind.i64.wrap ((l.length : Int) - 1) = (l.length : Int) - 1 := IntWalk.i64_in _ (by omega)
      cases hF : btw f 0 ((l.length : Int) - 1)
      · have HE := Lib.hid (prof_no hlt (hpa.trans (by rw [siteB_f hF]; rfl)))
        have HF := Lib.hid hF
        clear hF hpa ho hah
        go_wp2
        clear q0 q1 q2 q3
        refine wp_region_held_drew (S := (fun w' => w'.cell? ⟨w.heap.size, 0, none⟩ = some (.slice A t.length c) ∧ w'.cell? ⟨w.heap.size, 1, none⟩ = some (.slice B l.length d) ∧ w'.cell? ⟨wr.heap.size, 0, none⟩ = some (.int .i64 f) ∧ w'.cell? ⟨wr.heap.size, 1, none⟩ = some (.int .i64 pc) ∧ w'.cell? ⟨wr.heap.size, 2, none⟩ = some (.int .i64 seen) ∧ w'.cell? ⟨wr.heap.size, 3, none⟩ = some (.int .i64 target))) (by kernel_rfl) (⟨hSd.cell 1 rfl 0, hSd.cell 1 rfl 1, hSd.cell 0 rfl 0, hSd.cell 0 rfl 1, hSd.cell 0 rfl 2, hSd.cell 0 rfl 3⟩) (fun hHeld => ?_)
        (iterate 3 (first | refine rQ1 ?_ | refine rQ2 ?_); try simp only [pP])
        refine regS (fun _ _ _ d h => by cases d <;> exact h) [3, 4, 5, 6, 7, 8, 9, 10] _ _ _ rfl (by kernel_rfl) (by assumption) ?_
        simp only [skipL, List.getElem?_cons_zero, List.getElem?_cons_succ, Option.bind_some, pP]
        (iterate 2 (first | refine rQ1 ?_ | refine rQ2 ?_); try simp only [pP])
        (iterate 6 (first | refine rQ1 ?_ | refine rQ2 ?_); try simp only [pP])
        refine regC 19 rfl (by kernel_rfl) (by rfl) (fun Kq hKq => ?_)
        go_simp
        (with_reducible refine (between _ HF.out).mono ?_)
        rintro e w3 ⟨rfl, rfl⟩
        try go_wp2_with fail
        refine hKq.out _ _ (⟨hSd.cell 1 rfl 0, hSd.cell 1 rfl 1, hSd.cell 0 rfl 0, hSd.cell 0 rfl 1, hSd.cell 0 rfl 2, hSd.cell 0 rfl 3⟩) (fun hHeld => ?_)
        clear hKq Kq
        (try simp only [pP])
        (iterate 3 (first | refine rQ1 ?_ | refine rQ2 ?_); try simp only [pP])
        refine regS (fun _ _ _ d h => by cases d <;> exact h) [23, 24, 25, 26, 27, 28, 29, 30, 31, 32, 33, 34, 35] _ _ _ rfl (by kernel_rfl) (by assumption) ?_
        simp only [skipL, List.getElem?_cons_zero, List.getElem?_cons_succ, Option.bind_some, pP]
        (first | refine rQ1 ?_ | refine rQ2 ?_); (try simp only [pP])
        refine wpAnyH_done (by kernel_rfl) ?_ _
        go_wp2
        go_ret
        exact ⟨ret_bool HE.out.symm, hSd.bel⟩
      have hF2 := btw_true.1 hF
      obtain ⟨f, rfl⟩ : ∃ g : Nat, f = g := ⟨f.toNat, by omega⟩
      obtain ⟨y, hy⟩ := get_exU l f (by omega)
      have hyc := (h.hv y (List.mem_of_getElem? hy)).1
      obtain ⟨adf, Ac, cc, rfl, t0, t1, t2, _, hrc⟩ := kFunc_at h.hr f y hy
      have hf0 : (0 : Int) ≤ (f : Int) := by omega
      have hf1 : (f : Int) < l.length := by omega
      have HF := Lib.hid hF
      have i2 : IntKind.i64.wrap ((y.code.length : Int) - 1) = (y.code.length : Int) - 1 := IntWalk.i64_in _ (by omega)
      cases hP : btw pc 0 ((y.code.length : Int) - 1)
      · have HE := Lib.hid (prof_no hlt (hpa.trans (by rw [siteB_p hy rfl hP]; rfl)))
        have HP := Lib.hid hP
        clear hF hP hpa ho hah hy
        go_wp2
        clear q0 q1 q2 q3
        refine wp_region_held_drew (S := (fun w' => w'.cell? ⟨w.heap.size, 0, none⟩ = some (.slice A t.length c) ∧ w'.cell? ⟨w.heap.size, 1, none⟩ = some (.slice (some adf) l.length d) ∧ w'.cell? ⟨wr.heap.size, 0, none⟩ = some (.int .i64 f) ∧ w'.cell? ⟨wr.heap.size, 1, none⟩ = some (.int .i64 pc) ∧ w'.cell? ⟨wr.heap.size, 2, none⟩ = some (.int .i64 seen) ∧ w'.cell? ⟨wr.heap.size, 3, none⟩ = some (.int .i64 target) ∧ w'.cell? ⟨(adf.add (f * 3)).block, (adf.add (f * 3)).off + 2, none⟩ = some (.slice Ac y.code.length cc))) (by kernel_rfl) (⟨hSd.cell 1 rfl 0, hSd.cell 1 rfl 1, hSd.cell 0 rfl 0, hSd.cell 0 rfl 1, hSd.cell 0 rfl 2, hSd.cell 0 rfl 3, kept hSd.bel t2⟩) (fun hHeld => ?_)
        (iterate 3 (first | refine rQ1 ?_ | refine rQ2 ?_); try simp only [pP])
        refine regS (fun _ _ _ d h => by cases d <;> exact h) [3, 4, 5, 6, 7, 8, 9, 10] _ _ _ rfl (by kernel_rfl) (by assumption) ?_
        simp only [skipL, List.getElem?_cons_zero, List.getElem?_cons_succ, Option.bind_some, pP]
        (iterate 2 (first | refine rQ1 ?_ | refine rQ2 ?_); try simp only [pP])
        (iterate 6 (first | refine rQ1 ?_ | refine rQ2 ?_); try simp only [pP])
        refine regC 19 rfl (by kernel_rfl) (by rfl) (fun Kq hKq => ?_)
        go_simp
        (with_reducible refine (between _ HF.out).mono ?_)
        rintro e w3 ⟨rfl, rfl⟩
        try go_wp2_with fail
        refine hKq.out _ _ (⟨hSd.cell 1 rfl 0, hSd.cell 1 rfl 1, hSd.cell 0 rfl 0, hSd.cell 0 rfl 1, hSd.cell 0 rfl 2, hSd.cell 0 rfl 3, kept hSd.bel t2⟩) (fun hHeld => ?_)
        clear hKq Kq
        (try simp only [pP])
        (iterate 3 (first | refine rQ1 ?_ | refine rQ2 ?_); try simp only [pP])
        (iterate 11 (first | refine rQ1 ?_ | refine rQ2 ?_); try simp only [pP])
        refine regC 34 rfl (by kernel_rfl) (by rfl) (fun Kq hKq => ?_)
        go_simp
        (with_reducible refine (between _ HP.out).mono ?_)
        rintro e w4 ⟨rfl, rfl⟩
        try go_wp2_with fail
        refine hKq.out _ _ (⟨hSd.cell 1 rfl 0, hSd.cell 1 rfl 1, hSd.cell 0 rfl 0, hSd.cell 0 rfl 1, hSd.cell 0 rfl 2, hSd.cell 0 rfl 3, kept hSd.bel t2⟩) (fun hHeld => ?_)
        clear hKq Kq
        (try simp only [pP])
        (iterate 2 (first | refine rQ1 ?_ | refine rQ2 ?_); try simp only [pP])
        refine wpAnyH_done (by kernel_rfl) ?_ _
        go_wp2
        go_ret
        exact ⟨ret_bool HE.out.symm, hSd.bel⟩
      have hP2 := btw_true.1 hP
      obtain ⟨pc, rfl⟩ : ∃ g : Nat, pc = g := ⟨pc.toNat, by omega⟩
      obtain ⟨x, hxx⟩ := get_exU y.code pc (by omega)
      have hsb := siteB_of (s := ⟨f, pc, seen, target⟩) hy hxx rfl rfl
      obtain ⟨adc, rfl, v0, v1⟩ := kIns_at hrc pc x hxx
      have hp0 : (0 : Int) ≤ (pc : Int) := by omega
      have hp1 : (pc : Int) < y.code.length := by omega
      have HP := Lib.hid hP
      clear hF hP hy hxx hF2 hP2
      have HO := Lib.hid hpa
      have HS := Lib.hid hsb
      have HA := Lib.hid hah
      clear hpa hsb hah
      go_wp2
      clear q0 q1 q2 q3
      refine wp_region_held_drew (S := (fun w' => w'.cell? ⟨w.heap.size, 0, none⟩ = some (.slice A t.length c) ∧ w'.cell? ⟨w.heap.size, 1, none⟩ = some (.slice (some adf) l.length d) ∧ w'.cell? ⟨wr.heap.size, 0, none⟩ = some (.int .i64 f) ∧ w'.cell? ⟨wr.heap.size, 1, none⟩ = some (.int .i64 pc) ∧ w'.cell? ⟨wr.heap.size, 2, none⟩ = some (.int .i64 seen) ∧ w'.cell? ⟨wr.heap.size, 3, none⟩ = some (.int .i64 target) ∧ w'.cell? ⟨(adf.add (f * 3)).block, (adf.add (f * 3)).off + 2, none⟩ = some (.slice (some adc) y.code.length cc))) (by kernel_rfl) (⟨hSd.cell 1 rfl 0, hSd.cell 1 rfl 1, hSd.cell 0 rfl 0, hSd.cell 0 rfl 1, hSd.cell 0 rfl 2, hSd.cell 0 rfl 3, kept hSd.bel t2⟩) (fun hHeld => ?_)
      (iterate 3 (first | refine rQ1 ?_ | refine rQ2 ?_); try simp only [pP])
      refine regS (fun _ _ _ d h => by cases d <;> exact h) [3, 4, 5, 6, 7, 8, 9, 10] _ _ _ rfl (by kernel_rfl) (by assumption) ?_
      simp only [skipL, List.getElem?_cons_zero, List.getElem?_cons_succ, Option.bind_some, pP]
      (iterate 2 (first | refine rQ1 ?_ | refine rQ2 ?_); try simp only [pP])
      (iterate 6 (first | refine rQ1 ?_ | refine rQ2 ?_); try simp only [pP])
      refine regC 19 rfl (by kernel_rfl) (by rfl) (fun Kq hKq => ?_)
      go_simp
      (with_reducible refine (between _ HF.out).mono ?_)
      rintro e w3 ⟨rfl, rfl⟩
      try go_wp2_with fail
      refine hKq.out _ _ (⟨hSd.cell 1 rfl 0, hSd.cell 1 rfl 1, hSd.cell 0 rfl 0, hSd.cell 0 rfl 1, hSd.cell 0 rfl 2, hSd.cell 0 rfl 3, kept hSd.bel t2⟩) (fun hHeld => ?_)
      clear hKq Kq
      (try simp only [pP])
      (iterate 3 (first | refine rQ1 ?_ | refine rQ2 ?_); try simp only [pP])
      (iterate 11 (first | refine rQ1 ?_ | refine rQ2 ?_); try simp only [pP])
      refine regC 34 rfl (by kernel_rfl) (by rfl) (fun Kq hKq => ?_)
      go_simp
      (with_reducible refine (between _ HP.out).mono ?_)
      rintro e w4 ⟨rfl, rfl⟩
      try go_wp2_with fail
      refine hKq.out _ _ (⟨hSd.cell 1 rfl 0, hSd.cell 1 rfl 1, hSd.cell 0 rfl 0, hSd.cell 0 rfl 1, hSd.cell 0 rfl 2, hSd.cell 0 rfl 3, kept hSd.bel t2⟩) (fun hHeld => ?_)
      clear hKq Kq
      (try simp only [pP])
      (iterate 2 (first | refine rQ1 ?_ | refine rQ2 ?_); try simp only [pP])
      refine wpAnyH_done (by kernel_rfl) ?_ _
      have hpa := HO.out
      have hsb := HS.out
      have hah := HA.out
      have x0 := hSd.cell 0 rfl
      have x1 := hSd.cell 1 rfl
      go_wp2
      have hSe := hSd.drew
      refine wp_region_held_drew (S := (fun w' => w'.cell? ⟨w.heap.size, 0, none⟩ = some (.slice A t.length c) ∧ w'.cell? ⟨w.heap.size, 1, none⟩ = some (.slice (some adf) l.length d) ∧ w'.cell? ⟨wr.heap.size, 0, none⟩ = some (.int .i64 f) ∧ w'.cell? ⟨wr.heap.size, 1, none⟩ = some (.int .i64 pc) ∧ w'.cell? ⟨wr.heap.size, 2, none⟩ = some (.int .i64 seen) ∧ w'.cell? ⟨wr.heap.size, 3, none⟩ = some (.int .i64 target) ∧ w'.cell? ⟨(adf.add (f * 3)).block, (adf.add (f * 3)).off + 2, none⟩ = some (.slice (some adc) y.code.length cc) ∧ w'.cell? (adc.add (pc * 2)) = some (.int .i64 x.op))) (by kernel_rfl) (⟨hSe.cell 1 rfl 0, hSe.cell 1 rfl 1, hSe.cell 0 rfl 0, hSe.cell 0 rfl 1, hSe.cell 0 rfl 2, hSe.cell 0 rfl 3, kept hSe.bel t2, kept hSe.bel v0⟩) (fun hHeld => ?_)
      (iterate 13 (first | refine rQ1 ?_ | refine rQ2 ?_); try simp only [pP])
      refine wpAnyH_done (by kernel_rfl) ?_ _
      clear hHeld x0 x1
      have x0 := hSe.cell 0 rfl
      have x1 := hSe.cell 1 rfl
      obtain ⟨op, a⟩ := x
      simp only at *
      cases hI : is07 op
      · have hsx : siteX l.length ⟨op, a⟩ ⟨f, pc, seen, target⟩ = false := siteX_no hI
        have HE := Lib.hid (prof_no hlt (hpa.trans (by rw [hsb, hsx]; rfl)))
        have HI := Lib.hid hI
        clear hI hsx hpa hsb hah ho
        go_wp2_with (go_at_call 235; (with_reducible refine (l07Is _ _ HI.out).mono ?_); rintro e w' ⟨rfl, rfl⟩)
        go_ret
        exact ⟨ret_bool HE.out.symm, hSe.bel⟩
      have HI := Lib.hid hI
      cases hB : btw seen 1 3
      · have hsx : siteX l.length ⟨op, a⟩ ⟨f, pc, seen, target⟩ = false := siteX_seen hB
        have HE := Lib.hid (prof_no hlt (hpa.trans (by rw [hsb, hsx]; rfl)))
        have HB := Lib.hid hB
        clear hI hB hsx hpa hsb hah ho
        go_wp2_with (first | (go_at_call 235; (with_reducible refine (l07Is _ _ HI.out).mono ?_); rintro e w' ⟨rfl, rfl⟩) | (go_at_call 121; (with_reducible refine (between _ HB.out).mono ?_); rintro e w' ⟨rfl, rfl⟩))
        go_ret
        exact ⟨ret_bool HE.out.symm, hSe.bel⟩
      have HB := Lib.hid hB
      by_cases h23 : op = 23
      · subst h23
        by_cases h1 : seen = 1
        · subst h1
          have hsx : siteX l.length ⟨23, a⟩ ⟨f, pc, 1, target⟩ = btw target 0 ((l.length : Int) - 1) := by simp [siteX]
          cases hT : btw target 0 ((l.length : Int) - 1)
          · rw [hT] at hsx
            have HE := Lib.hid (prof_no hlt (hpa.trans (by rw [hsb, hsx]; rfl)))
            have HT := Lib.hid hT
            clear hI hB hT hsx hpa hsb hah ho
            go_wp2_with (first | (go_at_call 235; (with_reducible refine (l07Is _ _ HI.out).mono ?_); rintro e w' ⟨rfl, rfl⟩) | (go_at_call 121; first | ((with_reducible refine (between _ HB.out).mono ?_); rintro e w' ⟨rfl, rfl⟩) | ((with_reducible refine (between _ HT.out).mono ?_); rintro e w' ⟨rfl, rfl⟩)))
            go_ret
            exact ⟨ret_bool HE.out.symm, hSe.bel⟩
          · rw [hT] at hsx
            have HN := Lib.hid (upto_step ho.out (hpa.trans (by rw [hsb, hsx, hah]; rfl)))
            have HT := Lib.hid hT
            clear hI hB hT hsx hpa hsb hah ho
            go_wp2_with (first | (go_at_call 235; (with_reducible refine (l07Is _ _ HI.out).mono ?_); rintro e w' ⟨rfl, rfl⟩) | (go_at_call 121; first | ((with_reducible refine (between _ HB.out).mono ?_); rintro e w' ⟨rfl, rfl⟩) | ((with_reducible refine (between _ HT.out).mono ?_); rintro e w' ⟨rfl, rfl⟩)))
            go_roundw
            case rel => exact ⟨k + 1, by omega, by go_num, HN, hSe.drop⟩
            case measure => simp [intOf]; omega
        have hs1 : (seen == 1) = false := by simpa using h1
        by_cases h0 : target = 0
        · subst h0
          by_cases h3 : seen = 3
          · subst h3
            have hsx : siteX l.length ⟨23, a⟩ ⟨f, pc, 3, 0⟩ = false := by simp [siteX]
            have HE := Lib.hid (prof_no hlt (hpa.trans (by rw [hsb, hsx]; rfl)))
            clear hI hB hsx hpa hsb hah ho h1
            go_wp2_with (first | (go_at_call 235; (with_reducible refine (l07Is _ _ HI.out).mono ?_); rintro e w' ⟨rfl, rfl⟩) | (go_at_call 121; (with_reducible refine (between _ HB.out).mono ?_); rintro e w' ⟨rfl, rfl⟩))
            go_ret
            exact ⟨ret_bool HE.out.symm, hSe.bel⟩
          · have hs3 : (seen == 3) = false := by simpa using h3
            obtain rfl : seen = 2 := by have := btw_true.1 hB; omega
            have hsx : siteX l.length ⟨23, a⟩ ⟨f, pc, 2, 0⟩ = true := by simp [siteX]
            have HN := Lib.hid (upto_step ho.out (hpa.trans (by rw [hsb, hsx, hah]; rfl)))
            clear hI hB hsx hpa hsb hah ho h1 h3
            go_wp2_with (first | (go_at_call 235; (with_reducible refine (l07Is _ _ HI.out).mono ?_); rintro e w' ⟨rfl, rfl⟩) | (go_at_call 121; (with_reducible refine (between _ HB.out).mono ?_); rintro e w' ⟨rfl, rfl⟩))
            go_roundw
            case rel => exact ⟨k + 1, by omega, by go_num, HN, hSe.drop⟩
            case measure => simp [intOf]; omega
        · have ht0 : (target != 0) = true := by simpa using h0
          have hsx : siteX l.length ⟨23, a⟩ ⟨f, pc, seen, target⟩ = false := by simp [siteX, h1, h0]
          have HE := Lib.hid (prof_no hlt (hpa.trans (by rw [hsb, hsx]; rfl)))
          clear hI hB hsx hpa hsb hah ho h1 h0
          go_wp2_with (first | (go_at_call 235; (with_reducible refine (l07Is _ _ HI.out).mono ?_); rintro e w' ⟨rfl, rfl⟩) | (go_at_call 121; (with_reducible refine (between _ HB.out).mono ?_); rintro e w' ⟨rfl, rfl⟩))
          go_ret
          exact ⟨ret_bool HE.out.symm, hSe.bel⟩
      · have ho1 : (op == 23) = false := by simpa using h23
        have hAr : isAr op = true := by simpa [is07, h23] using hI
        by_cases h0 : target = 0
        · subst h0
          have hsx : siteX l.length ⟨op, a⟩ ⟨f, pc, seen, 0⟩ = true := by simp [siteX, h23, hAr, hB]
          have HN := Lib.hid (upto_step ho.out (hpa.trans (by rw [hsb, hsx, hah]; rfl)))
          clear hI hB hAr hsx hpa hsb hah ho h23
          go_wp2_with (first | (go_at_call 235; (with_reducible refine (l07Is _ _ HI.out).mono ?_); rintro e w' ⟨rfl, rfl⟩) | (go_at_call 121; (with_reducible refine (between _ HB.out).mono ?_); rintro e w' ⟨rfl, rfl⟩))
          go_roundw
          case rel => exact ⟨k + 1, by omega, by go_num, HN, hSe.drop⟩
          case measure => simp [intOf]; omega
        · have ht0 : (target != 0) = true := by simpa using h0
          have hsx : siteX l.length ⟨op, a⟩ ⟨f, pc, seen, target⟩ = false := by simp [siteX, h23, h0]
          have HE := Lib.hid (prof_no hlt (hpa.trans (by rw [hsb, hsx]; rfl)))
          clear hI hB hAr hsx hpa hsb hah ho h23 h0
          go_wp2_with (first | (go_at_call 235; (with_reducible refine (l07Is _ _ HI.out).mono ?_); rintro e w' ⟨rfl, rfl⟩) | (go_at_call 121; (with_reducible refine (between _ HB.out).mono ?_); rintro e w' ⟨rfl, rfl⟩))
          go_ret
          exact ⟨ret_bool HE.out.symm, hSe.bel⟩
    obtain ⟨j, rfl⟩ : ∃ j, k = j + 1 := ⟨k - 1, by omega⟩
    obtain ⟨q, hq⟩ := get_exU p j (by omega)
    obtain ⟨ad', e', r0, r1, r2, r3⟩ := kSite_at hr j q hq
    cases e'
    have hah2 : ahead p (j + 1) ⟨f, pc, seen, target⟩ = lessP q.fn q.pc f pc := ahead_s hq
    have j0 : (0 : Int) ≤ (j : Int) := by omega
    have j1 : (j : Int) < p.length := by omega
    obtain ⟨k, hjk⟩ : ∃ k, j + 1 = k := ⟨_, rfl⟩
    rw [hjk] at hlt hk hpa hah2 q0 q1 q2 q3 ho ⊢
    have e1 : (k : Int) - 1 = (j : Int) := by omega
    have e2 : (0 : Int) < (k : Int) := by omega
    have e3 : 0 < k := by omega
    have e4 : IntKind.i64.wrap (j : Int) = (j : Int) := IntWalk.i64_in _ (by omega)
    have HK := Lib.hid hjk
    clear hq hjk HX hk0
    cases hl : lessP q.fn q.pc f pc
    · have HE := Lib.hid (prof_no hlt (hpa.trans (by rw [hah2, hl, Bool.and_false])))
      have HL := Lib.hid (show lessP q.fn q.pc (⟨f, pc, seen, target⟩ : DSite).fn (⟨f, pc, seen, target⟩ : DSite).pc = false from hl)
      clear hl hpa ho hah2
      go_wp2
      clear q0 q1 q2 q3
      refine wp_region_held_drew (S := (fun w' => w'.cell? ⟨w.heap.size, 0, none⟩ = some (.slice A t.length c) ∧ w'.cell? ⟨w.heap.size, 1, none⟩ = some (.slice B l.length d) ∧ w'.cell? ⟨wr.heap.size, 0, none⟩ = some (.int .i64 f) ∧ w'.cell? ⟨wr.heap.size, 1, none⟩ = some (.int .i64 pc) ∧ w'.cell? ⟨wr.heap.size, 2, none⟩ = some (.int .i64 seen) ∧ w'.cell? ⟨wr.heap.size, 3, none⟩ = some (.int .i64 target) ∧ w'.cell? (ad.add (j * 4)) = some (.int .i64 q.fn) ∧ w'.cell? ⟨(ad.add (j * 4)).block, (ad.add (j * 4)).off + 1, none⟩ = some (.int .i64 q.pc) ∧ w'.cell? ⟨(ad.add (j * 4)).block, (ad.add (j * 4)).off + 2, none⟩ = some (.int .i64 q.seen) ∧ w'.cell? ⟨(ad.add (j * 4)).block, (ad.add (j * 4)).off + 3, none⟩ = some (.int .i64 q.target))) (by kernel_rfl) (⟨hSd.cell 1 rfl 0, hSd.cell 1 rfl 1, hSd.cell 0 rfl 0, hSd.cell 0 rfl 1, hSd.cell 0 rfl 2, hSd.cell 0 rfl 3, kept hSd.bel r0, kept hSd.bel r1, kept hSd.bel r2, kept hSd.bel r3⟩) (fun hHeld => ?_)
      (iterate 9 (first | refine rQ1 ?_ | refine rQ2 ?_); try simp only [pP])
      refine regC 9 rfl (by kernel_rfl) (by rfl) (fun Kq hKq => ?_)
      go_simp
      (with_reducible refine (l07Less q (⟨f, pc, seen, target⟩ : DSite) _ HL.out).mono ?_)
      rintro e w2 ⟨rfl, hb⟩; have hS2 := hSd.step hb; clear hb
      try go_wp2_with fail
      refine hKq.out _ _ (⟨hS2.cell 1 rfl 0, hS2.cell 1 rfl 1, hS2.cell 0 rfl 0, hS2.cell 0 rfl 1, hS2.cell 0 rfl 2, hS2.cell 0 rfl 3, kept hS2.bel r0, kept hS2.bel r1, kept hS2.bel r2, kept hS2.bel r3⟩) (fun hHeld => ?_)
      clear hKq Kq
      (try simp only [pP])
      (iterate 3 (first | refine rQ1 ?_ | refine rQ2 ?_); try simp only [pP])
      refine regS (fun _ _ _ d h => by cases d <;> exact h) [13, 14, 15, 16, 17, 18, 19, 20] _ _ _ rfl (by kernel_rfl) (by assumption) ?_
      simp only [skipL, List.getElem?_cons_zero, List.getElem?_cons_succ, Option.bind_some, pP]
      (iterate 2 (first | refine rQ1 ?_ | refine rQ2 ?_); try simp only [pP])
      refine regS (fun _ _ _ d h => by cases d <;> exact h) [23, 24, 25, 26, 27, 28, 29, 30, 31, 32, 33, 34, 35] _ _ _ rfl (by kernel_rfl) (by assumption) ?_
      simp only [skipL, List.getElem?_cons_zero, List.getElem?_cons_succ, Option.bind_some, pP]
      (first | refine rQ1 ?_ | refine rQ2 ?_); (try simp only [pP])
      refine wpAnyH_done (by kernel_rfl) ?_ _
      go_wp2
      go_ret
      exact ⟨ret_bool HE.out.symm, hS2.bel⟩
    have hah := hah2.trans hl
    have HL := Lib.hid (show lessP q.fn q.pc (⟨f, pc, seen, target⟩ : DSite).fn (⟨f, pc, seen, target⟩ : DSite).pc = true from hl)
    clear hl hah2
    have i1 : IntKind.i64.wrap ((l.length : Int) - 1) = (l.length : Int) - 1 := IntWalk.i64_in _ (by omega)
    cases hF : btw f 0 ((l.length : Int) - 1)
    · have HE := Lib.hid (prof_no hlt (hpa.trans (by rw [siteB_f hF]; rfl)))
      have HF := Lib.hid hF
      clear hF hpa ho hah
      go_wp2
      clear q0 q1 q2 q3
      refine wp_region_held_drew (S := (fun w' => w'.cell? ⟨w.heap.size, 0, none⟩ = some (.slice A t.length c) ∧ w'.cell? ⟨w.heap.size, 1, none⟩ = some (.slice B l.length d) ∧ w'.cell? ⟨wr.heap.size, 0, none⟩ = some (.int .i64 f) ∧ w'.cell? ⟨wr.heap.size, 1, none⟩ = some (.int .i64 pc) ∧ w'.cell? ⟨wr.heap.size, 2, none⟩ = some (.int .i64 seen) ∧ w'.cell? ⟨wr.heap.size, 3, none⟩ = some (.int .i64 target) ∧ w'.cell? (ad.add (j * 4)) = some (.int .i64 q.fn) ∧ w'.cell? ⟨(ad.add (j * 4)).block, (ad.add (j * 4)).off + 1, none⟩ = some (.int .i64 q.pc) ∧ w'.cell? ⟨(ad.add (j * 4)).block, (ad.add (j * 4)).off + 2, none⟩ = some (.int .i64 q.seen) ∧ w'.cell? ⟨(ad.add (j * 4)).block, (ad.add (j * 4)).off + 3, none⟩ = some (.int .i64 q.target))) (by kernel_rfl) (⟨hSd.cell 1 rfl 0, hSd.cell 1 rfl 1, hSd.cell 0 rfl 0, hSd.cell 0 rfl 1, hSd.cell 0 rfl 2, hSd.cell 0 rfl 3, kept hSd.bel r0, kept hSd.bel r1, kept hSd.bel r2, kept hSd.bel r3⟩) (fun hHeld => ?_)
      (iterate 9 (first | refine rQ1 ?_ | refine rQ2 ?_); try simp only [pP])
      refine regC 9 rfl (by kernel_rfl) (by rfl) (fun Kq hKq => ?_)
      go_simp
      (with_reducible refine (l07Less q (⟨f, pc, seen, target⟩ : DSite) _ HL.out).mono ?_)
      rintro e w2 ⟨rfl, hb⟩; have hS2 := hSd.step hb; clear hb
      try go_wp2_with fail
      refine hKq.out _ _ (⟨hS2.cell 1 rfl 0, hS2.cell 1 rfl 1, hS2.cell 0 rfl 0, hS2.cell 0 rfl 1, hS2.cell 0 rfl 2, hS2.cell 0 rfl 3, kept hS2.bel r0, kept hS2.bel r1, kept hS2.bel r2, kept hS2.bel r3⟩) (fun hHeld => ?_)
      clear hKq Kq
      (try simp only [pP])
      (iterate 3 (first | refine rQ1 ?_ | refine rQ2 ?_); try simp only [pP])
      (iterate 6 (first | refine rQ1 ?_ | refine rQ2 ?_); try simp only [pP])
      refine regC 19 rfl (by kernel_rfl) (by rfl) (fun Kq hKq => ?_)
      go_simp
      (with_reducible refine (between _ HF.out).mono ?_)
      rintro e w3 ⟨rfl, rfl⟩
      try go_wp2_with fail
      refine hKq.out _ _ (⟨hS2.cell 1 rfl 0, hS2.cell 1 rfl 1, hS2.cell 0 rfl 0, hS2.cell 0 rfl 1, hS2.cell 0 rfl 2, hS2.cell 0 rfl 3, kept hS2.bel r0, kept hS2.bel r1, kept hS2.bel r2, kept hS2.bel r3⟩) (fun hHeld => ?_)
      clear hKq Kq
      (try simp only [pP])
      (iterate 3 (first | refine rQ1 ?_ | refine rQ2 ?_); try simp only [pP])
      refine regS (fun _ _ _ d h => by cases d <;> exact h) [23, 24, 25, 26, 27, 28, 29, 30, 31, 32, 33, 34, 35] _ _ _ rfl (by kernel_rfl) (by assumption) ?_
      simp only [skipL, List.getElem?_cons_zero, List.getElem?_cons_succ, Option.bind_some, pP]
      (first | refine rQ1 ?_ | refine rQ2 ?_); (try simp only [pP])
      refine wpAnyH_done (by kernel_rfl) ?_ _
      go_wp2
      go_ret
      exact ⟨ret_bool HE.out.symm, hS2.bel⟩
    have hF2 := btw_true.1 hF
    obtain ⟨f, rfl⟩ : ∃ g : Nat, f = g := ⟨f.toNat, by omega⟩
    obtain ⟨y, hy⟩ := get_exU l f (by omega)
    have hyc := (h.hv y (List.mem_of_getElem? hy)).1
    obtain ⟨adf, Ac, cc, rfl, t0, t1, t2, _, hrc⟩ := kFunc_at h.hr f y hy
    have hf0 : (0 : Int) ≤ (f : Int) := by omega
    have hf1 : (f : Int) < l.length := by omega
    have HF := Lib.hid hF
    have i2 : IntKind.i64.wrap ((y.code.length : Int) - 1) = (y.code.length : Int) - 1 := IntWalk.i64_in _ (by omega)
    cases hP : btw pc 0 ((y.code.length : Int) - 1)
    · have HE := Lib.hid (prof_no hlt (hpa.trans (by rw [siteB_p hy rfl hP]; rfl)))
      have HP := Lib.hid hP
      clear hF hP hpa ho hah hy
      go_wp2
      clear q0 q1 q2 q3
      refine wp_region_held_drew (S := (fun w' => w'.cell? ⟨w.heap.size, 0, none⟩ = some (.slice A t.length c) ∧ w'.cell? ⟨w.heap.size, 1, none⟩ = some (.slice (some adf) l.length d) ∧ w'.cell? ⟨wr.heap.size, 0, none⟩ = some (.int .i64 f) ∧ w'.cell? ⟨wr.heap.size, 1, none⟩ = some (.int .i64 pc) ∧ w'.cell? ⟨wr.heap.size, 2, none⟩ = some (.int .i64 seen) ∧ w'.cell? ⟨wr.heap.size, 3, none⟩ = some (.int .i64 target) ∧ w'.cell? (ad.add (j * 4)) = some (.int .i64 q.fn) ∧ w'.cell? ⟨(ad.add (j * 4)).block, (ad.add (j * 4)).off + 1, none⟩ = some (.int .i64 q.pc) ∧ w'.cell? ⟨(ad.add (j * 4)).block, (ad.add (j * 4)).off + 2, none⟩ = some (.int .i64 q.seen) ∧ w'.cell? ⟨(ad.add (j * 4)).block, (ad.add (j * 4)).off + 3, none⟩ = some (.int .i64 q.target) ∧ w'.cell? ⟨(adf.add (f * 3)).block, (adf.add (f * 3)).off + 2, none⟩ = some (.slice Ac y.code.length cc))) (by kernel_rfl) (⟨hSd.cell 1 rfl 0, hSd.cell 1 rfl 1, hSd.cell 0 rfl 0, hSd.cell 0 rfl 1, hSd.cell 0 rfl 2, hSd.cell 0 rfl 3, kept hSd.bel r0, kept hSd.bel r1, kept hSd.bel r2, kept hSd.bel r3, kept hSd.bel t2⟩) (fun hHeld => ?_)
      (iterate 9 (first | refine rQ1 ?_ | refine rQ2 ?_); try simp only [pP])
      refine regC 9 rfl (by kernel_rfl) (by rfl) (fun Kq hKq => ?_)
      go_simp
      (with_reducible refine (l07Less q (⟨f, pc, seen, target⟩ : DSite) _ HL.out).mono ?_)
      rintro e w2 ⟨rfl, hb⟩; have hS2 := hSd.step hb; clear hb
      try go_wp2_with fail
      refine hKq.out _ _ (⟨hS2.cell 1 rfl 0, hS2.cell 1 rfl 1, hS2.cell 0 rfl 0, hS2.cell 0 rfl 1, hS2.cell 0 rfl 2, hS2.cell 0 rfl 3, kept hS2.bel r0, kept hS2.bel r1, kept hS2.bel r2, kept hS2.bel r3, kept hS2.bel t2⟩) (fun hHeld => ?_)
      clear hKq Kq
      (try simp only [pP])
      (iterate 3 (first | refine rQ1 ?_ | refine rQ2 ?_); try simp only [pP])
      (iterate 6 (first | refine rQ1 ?_ | refine rQ2 ?_); try simp only [pP])
      refine regC 19 rfl (by kernel_rfl) (by rfl) (fun Kq hKq => ?_)
      go_simp
      (with_reducible refine (between _ HF.out).mono ?_)
      rintro e w3 ⟨rfl, rfl⟩
      try go_wp2_with fail
      refine hKq.out _ _ (⟨hS2.cell 1 rfl 0, hS2.cell 1 rfl 1, hS2.cell 0 rfl 0, hS2.cell 0 rfl 1, hS2.cell 0 rfl 2, hS2.cell 0 rfl 3, kept hS2.bel r0, kept hS2.bel r1, kept hS2.bel r2, kept hS2.bel r3, kept hS2.bel t2⟩) (fun hHeld => ?_)
      clear hKq Kq
      (try simp only [pP])
      (iterate 3 (first | refine rQ1 ?_ | refine rQ2 ?_); try simp only [pP])
      (iterate 11 (first | refine rQ1 ?_ | refine rQ2 ?_); try simp only [pP])
      refine regC 34 rfl (by kernel_rfl) (by rfl) (fun Kq hKq => ?_)
      go_simp
      (with_reducible refine (between _ HP.out).mono ?_)
      rintro e w4 ⟨rfl, rfl⟩
      try go_wp2_with fail
      refine hKq.out _ _ (⟨hS2.cell 1 rfl 0, hS2.cell 1 rfl 1, hS2.cell 0 rfl 0, hS2.cell 0 rfl 1, hS2.cell 0 rfl 2, hS2.cell 0 rfl 3, kept hS2.bel r0, kept hS2.bel r1, kept hS2.bel r2, kept hS2.bel r3, kept hS2.bel t2⟩) (fun hHeld => ?_)
      clear hKq Kq
      (try simp only [pP])
      (iterate 2 (first | refine rQ1 ?_ | refine rQ2 ?_); try simp only [pP])
      refine wpAnyH_done (by kernel_rfl) ?_ _
      go_wp2
      go_ret
      exact ⟨ret_bool HE.out.symm, hS2.bel⟩
    have hP2 := btw_true.1 hP
    obtain ⟨pc, rfl⟩ : ∃ g : Nat, pc = g := ⟨pc.toNat, by omega⟩
    obtain ⟨x, hxx⟩ := get_exU y.code pc (by omega)
    have hsb := siteB_of (s := ⟨f, pc, seen, target⟩) hy hxx rfl rfl
    obtain ⟨adc, rfl, v0, v1⟩ := kIns_at hrc pc x hxx
    have hp0 : (0 : Int) ≤ (pc : Int) := by omega
    have hp1 : (pc : Int) < y.code.length := by omega
    have HP := Lib.hid hP
    clear hF hP hy hxx hF2 hP2
    have HO := Lib.hid hpa
    have HS := Lib.hid hsb
    have HA := Lib.hid hah
    clear hpa hsb hah
    go_wp2
    clear q0 q1 q2 q3
    refine wp_region_held_drew (S := (fun w' => w'.cell? ⟨w.heap.size, 0, none⟩ = some (.slice A t.length c) ∧ w'.cell? ⟨w.heap.size, 1, none⟩ = some (.slice (some adf) l.length d) ∧ w'.cell? ⟨wr.heap.size, 0, none⟩ = some (.int .i64 f) ∧ w'.cell? ⟨wr.heap.size, 1, none⟩ = some (.int .i64 pc) ∧ w'.cell? ⟨wr.heap.size, 2, none⟩ = some (.int .i64 seen) ∧ w'.cell? ⟨wr.heap.size, 3, none⟩ = some (.int .i64 target) ∧ w'.cell? (ad.add (j * 4)) = some (.int .i64 q.fn) ∧ w'.cell? ⟨(ad.add (j * 4)).block, (ad.add (j * 4)).off + 1, none⟩ = some (.int .i64 q.pc) ∧ w'.cell? ⟨(ad.add (j * 4)).block, (ad.add (j * 4)).off + 2, none⟩ = some (.int .i64 q.seen) ∧ w'.cell? ⟨(ad.add (j * 4)).block, (ad.add (j * 4)).off + 3, none⟩ = some (.int .i64 q.target) ∧ w'.cell? ⟨(adf.add (f * 3)).block, (adf.add (f * 3)).off + 2, none⟩ = some (.slice (some adc) y.code.length cc))) (by kernel_rfl) (⟨hSd.cell 1 rfl 0, hSd.cell 1 rfl 1, hSd.cell 0 rfl 0, hSd.cell 0 rfl 1, hSd.cell 0 rfl 2, hSd.cell 0 rfl 3, kept hSd.bel r0, kept hSd.bel r1, kept hSd.bel r2, kept hSd.bel r3, kept hSd.bel t2⟩) (fun hHeld => ?_)
    (iterate 9 (first | refine rQ1 ?_ | refine rQ2 ?_); try simp only [pP])
    refine regC 9 rfl (by kernel_rfl) (by rfl) (fun Kq hKq => ?_)
    go_simp
    (with_reducible refine (l07Less q (⟨f, pc, seen, target⟩ : DSite) _ HL.out).mono ?_)
    rintro e w2 ⟨rfl, hb⟩; have hS2 := hSd.step hb; clear hb
    try go_wp2_with fail
    refine hKq.out _ _ (⟨hS2.cell 1 rfl 0, hS2.cell 1 rfl 1, hS2.cell 0 rfl 0, hS2.cell 0 rfl 1, hS2.cell 0 rfl 2, hS2.cell 0 rfl 3, kept hS2.bel r0, kept hS2.bel r1, kept hS2.bel r2, kept hS2.bel r3, kept hS2.bel t2⟩) (fun hHeld => ?_)
    clear hKq Kq
    (try simp only [pP])
    (iterate 3 (first | refine rQ1 ?_ | refine rQ2 ?_); try simp only [pP])
    (iterate 6 (first | refine rQ1 ?_ | refine rQ2 ?_); try simp only [pP])
    refine regC 19 rfl (by kernel_rfl) (by rfl) (fun Kq hKq => ?_)
    go_simp
    (with_reducible refine (between _ HF.out).mono ?_)
    rintro e w3 ⟨rfl, rfl⟩
    try go_wp2_with fail
    refine hKq.out _ _ (⟨hS2.cell 1 rfl 0, hS2.cell 1 rfl 1, hS2.cell 0 rfl 0, hS2.cell 0 rfl 1, hS2.cell 0 rfl 2, hS2.cell 0 rfl 3, kept hS2.bel r0, kept hS2.bel r1, kept hS2.bel r2, kept hS2.bel r3, kept hS2.bel t2⟩) (fun hHeld => ?_)
    clear hKq Kq
    (try simp only [pP])
    (iterate 3 (first | refine rQ1 ?_ | refine rQ2 ?_); try simp only [pP])
    (iterate 11 (first | refine rQ1 ?_ | refine rQ2 ?_); try simp only [pP])
    refine regC 34 rfl (by kernel_rfl) (by rfl) (fun Kq hKq => ?_)
    go_simp
    (with_reducible refine (between _ HP.out).mono ?_)
    rintro e w4 ⟨rfl, rfl⟩
    try go_wp2_with fail
    refine hKq.out _ _ (⟨hS2.cell 1 rfl 0, hS2.cell 1 rfl 1, hS2.cell 0 rfl 0, hS2.cell 0 rfl 1, hS2.cell 0 rfl 2, hS2.cell 0 rfl 3, kept hS2.bel r0, kept hS2.bel r1, kept hS2.bel r2, kept hS2.bel r3, kept hS2.bel t2⟩) (fun hHeld => ?_)
    clear hKq Kq
    (try simp only [pP])
    (iterate 2 (first | refine rQ1 ?_ | refine rQ2 ?_); try simp only [pP])
    refine wpAnyH_done (by kernel_rfl) ?_ _
    have hpa := HO.out
    have hsb := HS.out
    have hah := HA.out
    have x0 := hS2.cell 0 rfl
    have x1 := hS2.cell 1 rfl
    go_wp2
    have hSe := hS2.drew
    refine wp_region_held_drew (S := (fun w' => w'.cell? ⟨w.heap.size, 0, none⟩ = some (.slice A t.length c) ∧ w'.cell? ⟨w.heap.size, 1, none⟩ = some (.slice (some adf) l.length d) ∧ w'.cell? ⟨wr.heap.size, 0, none⟩ = some (.int .i64 f) ∧ w'.cell? ⟨wr.heap.size, 1, none⟩ = some (.int .i64 pc) ∧ w'.cell? ⟨wr.heap.size, 2, none⟩ = some (.int .i64 seen) ∧ w'.cell? ⟨wr.heap.size, 3, none⟩ = some (.int .i64 target) ∧ w'.cell? ⟨(adf.add (f * 3)).block, (adf.add (f * 3)).off + 2, none⟩ = some (.slice (some adc) y.code.length cc) ∧ w'.cell? (adc.add (pc * 2)) = some (.int .i64 x.op))) (by kernel_rfl) (⟨hSe.cell 1 rfl 0, hSe.cell 1 rfl 1, hSe.cell 0 rfl 0, hSe.cell 0 rfl 1, hSe.cell 0 rfl 2, hSe.cell 0 rfl 3, kept hSe.bel t2, kept hSe.bel v0⟩) (fun hHeld => ?_)
    (iterate 13 (first | refine rQ1 ?_ | refine rQ2 ?_); try simp only [pP])
    refine wpAnyH_done (by kernel_rfl) ?_ _
    clear hHeld x0 x1
    have x0 := hSe.cell 0 rfl
    have x1 := hSe.cell 1 rfl
    obtain ⟨op, a⟩ := x
    simp only at *
    cases hI : is07 op
    · have hsx : siteX l.length ⟨op, a⟩ ⟨f, pc, seen, target⟩ = false := siteX_no hI
      have HE := Lib.hid (prof_no hlt (hpa.trans (by rw [hsb, hsx]; rfl)))
      have HI := Lib.hid hI
      clear hI hsx hpa hsb hah ho
      go_wp2_with (go_at_call 235; (with_reducible refine (l07Is _ _ HI.out).mono ?_); rintro e w' ⟨rfl, rfl⟩)
      go_ret
      exact ⟨ret_bool HE.out.symm, hSe.bel⟩
    have HI := Lib.hid hI
    cases hB : btw seen 1 3
    · have hsx : siteX l.length ⟨op, a⟩ ⟨f, pc, seen, target⟩ = false := siteX_seen hB
      have HE := Lib.hid (prof_no hlt (hpa.trans (by rw [hsb, hsx]; rfl)))
      have HB := Lib.hid hB
      clear hI hB hsx hpa hsb hah ho
      go_wp2_with (first | (go_at_call 235; (with_reducible refine (l07Is _ _ HI.out).mono ?_); rintro e w' ⟨rfl, rfl⟩) | (go_at_call 121; (with_reducible refine (between _ HB.out).mono ?_); rintro e w' ⟨rfl, rfl⟩))
      go_ret
      exact ⟨ret_bool HE.out.symm, hSe.bel⟩
    have HB := Lib.hid hB
    by_cases h23 : op = 23
    · subst h23
      by_cases h1 : seen = 1
      · subst h1
        have hsx : siteX l.length ⟨23, a⟩ ⟨f, pc, 1, target⟩ = btw target 0 ((l.length : Int) - 1) := by simp [siteX]
        cases hT : btw target 0 ((l.length : Int) - 1)
        · rw [hT] at hsx
          have HE := Lib.hid (prof_no hlt (hpa.trans (by rw [hsb, hsx]; rfl)))
          have HT := Lib.hid hT
          clear hI hB hT hsx hpa hsb hah ho
          go_wp2_with (first | (go_at_call 235; (with_reducible refine (l07Is _ _ HI.out).mono ?_); rintro e w' ⟨rfl, rfl⟩) | (go_at_call 121; first | ((with_reducible refine (between _ HB.out).mono ?_); rintro e w' ⟨rfl, rfl⟩) | ((with_reducible refine (between _ HT.out).mono ?_); rintro e w' ⟨rfl, rfl⟩)))
          go_ret
          exact ⟨ret_bool HE.out.symm, hSe.bel⟩
        · rw [hT] at hsx
          have HN := Lib.hid (upto_step ho.out (hpa.trans (by rw [hsb, hsx, hah]; rfl)))
          have HT := Lib.hid hT
          clear hI hB hT hsx hpa hsb hah ho
          go_wp2_with (first | (go_at_call 235; (with_reducible refine (l07Is _ _ HI.out).mono ?_); rintro e w' ⟨rfl, rfl⟩) | (go_at_call 121; first | ((with_reducible refine (between _ HB.out).mono ?_); rintro e w' ⟨rfl, rfl⟩) | ((with_reducible refine (between _ HT.out).mono ?_); rintro e w' ⟨rfl, rfl⟩)))
          go_roundw
          case rel => exact ⟨k + 1, by omega, by go_num, HN, hSe.drop⟩
          case measure => simp [intOf]; omega
      have hs1 : (seen == 1) = false := by simpa using h1
      by_cases h0 : target = 0
      · subst h0
        by_cases h3 : seen = 3
        · subst h3
          have hsx : siteX l.length ⟨23, a⟩ ⟨f, pc, 3, 0⟩ = false := by simp [siteX]
          have HE := Lib.hid (prof_no hlt (hpa.trans (by rw [hsb, hsx]; rfl)))
          clear hI hB hsx hpa hsb hah ho h1
          go_wp2_with (first | (go_at_call 235; (with_reducible refine (l07Is _ _ HI.out).mono ?_); rintro e w' ⟨rfl, rfl⟩) | (go_at_call 121; (with_reducible refine (between _ HB.out).mono ?_); rintro e w' ⟨rfl, rfl⟩))
          go_ret
          exact ⟨ret_bool HE.out.symm, hSe.bel⟩
        · have hs3 : (seen == 3) = false := by simpa using h3
          obtain rfl : seen = 2 := by have := btw_true.1 hB; omega
          have hsx : siteX l.length ⟨23, a⟩ ⟨f, pc, 2, 0⟩ = true := by simp [siteX]
          have HN := Lib.hid (upto_step ho.out (hpa.trans (by rw [hsb, hsx, hah]; rfl)))
          clear hI hB hsx hpa hsb hah ho h1 h3
          go_wp2_with (first | (go_at_call 235; (with_reducible refine (l07Is _ _ HI.out).mono ?_); rintro e w' ⟨rfl, rfl⟩) | (go_at_call 121; (with_reducible refine (between _ HB.out).mono ?_); rintro e w' ⟨rfl, rfl⟩))
          go_roundw
          case rel => exact ⟨k + 1, by omega, by go_num, HN, hSe.drop⟩
          case measure => simp [intOf]; omega
      · have ht0 : (target != 0) = true := by simpa using h0
        have hsx : siteX l.length ⟨23, a⟩ ⟨f, pc, seen, target⟩ = false := by simp [siteX, h1, h0]
        have HE := Lib.hid (prof_no hlt (hpa.trans (by rw [hsb, hsx]; rfl)))
        clear hI hB hsx hpa hsb hah ho h1 h0
        go_wp2_with (first | (go_at_call 235; (with_reducible refine (l07Is _ _ HI.out).mono ?_); rintro e w' ⟨rfl, rfl⟩) | (go_at_call 121; (with_reducible refine (between _ HB.out).mono ?_); rintro e w' ⟨rfl, rfl⟩))
        go_ret
        exact ⟨ret_bool HE.out.symm, hSe.bel⟩
    · have ho1 : (op == 23) = false := by simpa using h23
      have hAr : isAr op = true := by simpa [is07, h23] using hI
      by_cases h0 : target = 0
      · subst h0
        have hsx : siteX l.length ⟨op, a⟩ ⟨f, pc, seen, 0⟩ = true := by simp [siteX, h23, hAr, hB]
        have HN := Lib.hid (upto_step ho.out (hpa.trans (by rw [hsb, hsx, hah]; rfl)))
        clear hI hB hAr hsx hpa hsb hah ho h23
        go_wp2_with (first | (go_at_call 235; (with_reducible refine (l07Is _ _ HI.out).mono ?_); rintro e w' ⟨rfl, rfl⟩) | (go_at_call 121; (with_reducible refine (between _ HB.out).mono ?_); rintro e w' ⟨rfl, rfl⟩))
        go_roundw
        case rel => exact ⟨k + 1, by omega, by go_num, HN, hSe.drop⟩
        case measure => simp [intOf]; omega
      · have ht0 : (target != 0) = true := by simpa using h0
        have hsx : siteX l.length ⟨op, a⟩ ⟨f, pc, seen, target⟩ = false := by simp [siteX, h23, h0]
        have HE := Lib.hid (prof_no hlt (hpa.trans (by rw [hsb, hsx]; rfl)))
        clear hI hB hAr hsx hpa hsb hah ho h23 h0
        go_wp2_with (first | (go_at_call 235; (with_reducible refine (l07Is _ _ HI.out).mono ?_); rintro e w' ⟨rfl, rfl⟩) | (go_at_call 121; (with_reducible refine (between _ HB.out).mono ?_); rintro e w' ⟨rfl, rfl⟩))
        go_ret
        exact ⟨ret_bool HE.out.symm, hSe.bel⟩
end Go.Proofs.YthinhlcfpaaldaaGreat.Dat
