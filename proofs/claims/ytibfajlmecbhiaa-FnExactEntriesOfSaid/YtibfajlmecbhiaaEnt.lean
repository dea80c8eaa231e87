/- Entries in the program; entries in the reference. -/
import Derived.Test.YtibfajlmecbhiaaHead
import Derived.Laws.AppendOwnNone
namespace Go.Proofs.Ytibfajlmecbhiaa.Dat
open Go Go.RowKit Go.Proofs.Ytibfajlmecbhiaa.Mem
set_option linter.unusedVariables false
set_option linter.unusedSimpArgs false
theorem wp_app0 {ops : Array Oper} {rest : List Oper} {o : Oper} {a : Act} {Q : Exit → Act → World → Prop} {w0 w2 : World} (hgd : o.guard = none) (s x : Operand)
    (ho : o.op = .call { callee := .builtin .append, args := #[s, x], argTypes := #[27, 27] }) (v2 : Value) (HH : List Int) (F : List Nat) (hO : (Knd.int .i64).Own 3 w2 v2 HH F) (hb : Below w0.heap.size w0 w2)
    (hs : a.eval s = .slice (some ⟨w2.heap.size, 0, none⟩) 1 1) (hx : a.eval x = v2) (hl : HH.length ≤ 1000)
    (h : ∀ v' w3, NewRow (Knd.int .i64) 3 (0 :: HH) w0 (.returned v') w3 → wpList Try.prog ops Q rest (a.put o.dst v') w3) : wpList Try.prog ops Q (o :: rest) a (w2.alloc (.cells #[.int .i64 0] 3 (0, 0))) := by
  obtain ⟨i0, hi, hz0, hz1, hz2⟩ := info_parts infoInt
  have hlit : (w2.alloc (.cells #[.int .i64 0] 3 (0, 0))).ownsRow w0.heap.size 3 1 (.slice (some ⟨w2.heap.size, 0, none⟩) 1 1) 1 [.int .i64 0] := World.ownsRow_lit w2 #[.int .i64 0] 1 hb.size (by decide) rfl
  have hb2 : Below w0.heap.size w0 (w2.alloc (.cells #[.int .i64 0] 3 (0, 0))) := hb.alloc hb.size _
  have fin : ∀ v' w3, w3.ownsRow w0.heap.size 3 1 v' (1 + HH.length) ([Value.int .i64 0] ++ HH.map (Value.int .i64)) → (w2.alloc (.cells #[.int .i64 0] 3 (0, 0))).grownBy w3 (some w2.heap.size) → NewRow (Knd.int .i64) 3 (0 :: HH) w0 (.returned v') w3 := fun v' w3 ho hg => by
    refine own_of_row ?_ (hb2.grown hg hb2.size (fun k e => by cases e; exact hb.size))
    rw [Nat.add_comm] at ho
    exact ho
  obtain ⟨inner, Fs, ho2, hr, rfl⟩ := id hO
  rcases ho2.2 with ⟨rfl, hz⟩ | ⟨g, cap, cur, rfl, _, hg, _⟩
  · obtain rfl := List.eq_nil_of_length_eq_zero hz
    refine wpList_append_own_none hgd s x 27 ho w0.heap.size 3 i0 1 Try.underlying27 hi _ 1 [.int .i64 0] hs hlit hx ?_
    refine h _ _ (own_of_row hlit hb2)
  · have hgl : g < w2.heap.size := (Array.getElem?_eq_some_iff.1 hg).1
    refine wpList_append_own _ hgd s x 27 ho w0.heap.size 3 i0 (.int .i64 0) 1 8 Try.underlying27 hi hz0 hz1 hz2 rfl (by decide) _ 1 [.int .i64 0] hs hlit ⟨g, 0, none⟩ HH.length cap (HH.map (Value.int .i64)) hx (by simp) (fun j u hu => ?_) (fun u hu => ?_) (by unfold maxLen; omega) (by omega) (by have := hb2.size; exact this) ?_
    · rw [List.getElem?_map] at hu
      obtain ⟨y, hy, rfl⟩ := Option.map_eq_some_iff.1 hu
      have h1 := Knd.Own.cell1 hO j y hy
      have h2 := ((Below.refl w2.heap.size w2).alloc (Nat.le_refl _) (.cells #[.int .i64 0] 3 (0, 0))).cell (p := ⟨g, j, none⟩) hgl
      have e9 : (⟨g, 0, none⟩ : Addr).add j = ⟨g, j, none⟩ := by unfold Addr.add; split <;> simp_all
      rw [e9]
      exact h2.trans h1
    · obtain ⟨y, _, rfl⟩ := List.mem_map.1 hu
      rfl
    · intro v' w3 h1 h2 _
      exact h v' w3 (fin v' w3 h1 h2)
set_option maxHeartbeats 4000000 in
set_option maxRecDepth 100000 in
theorem entriesI (A B : Option Addr) (c d : Nat) (t : List ByteArray) (l : List DFunc) (f : Nat) (y : DFunc) (w : World) (hr : kFunc.Row w B l.length l) (hgd : isGoodB t l = true) (hy : l[f]? = some y) :
    Calls Try.prog 34 #[.agg #[.slice A t.length c, .slice B l.length d], .int .i64 f] w (NewRow (Knd.int .i64) 3 (entriesL l y.code) w) := by
  have hfit := modFit (isGood_mod hgd)
  have hym := List.mem_of_getElem? hy
  have n120 := hfit.c120 y hym
  have hHl : (headsL l y.code).length ≤ 1000 := by have := headsL_len l y.code; omega
  have eA := entries_asc (l := l) (c := y.code)
  have C := headsI A B c d t l f y
  rw [← eA]
  generalize headsL l y.code = HH at *
  have HY := Lib.hid hy
  clear hy eA
  have hS0 := (St.start w).made (.cells #[.slice A t.length c, .slice B l.length d] 31 (0, 0))
  go_enter Try.func34, Try.ntmps34
  go_wp2_with fail
  refine (C _ (hr.below hS0.bel) hgd HY.out).mono ?_
  intro e w2 hn
  obtain ⟨v, F, rfl, hS⟩ := hS0.newRow hn
  clear hn hS0 C
  obtain ⟨A3, c3, rfl, _, _⟩ := hS.row 0 rfl
  go_wp2_with (at_builtin; refine Knd.wp_app1 rfl _ _ _ rfl 3 Try.underlying27 (.int .i64 0) 8 infoInt rfl rfl ((hS.al _).own_ 0 rfl) _ _ _ _ _ (blkAt _ _ (by simp)) rfl (by (try simp [maxLen]); (try omega)) (by (try simp); (try omega)) ?_; rintro gq cq wq hO hB hg; have hSq := (hS.al _).app1 0 rfl hO hB hg; clear hO hB hg hS; have hS := hSq; clear hSq)
  have hI := ints_own (hS.own_ 0 rfl)
  have C := ascI _ _ cq (by simp; omega) _ hI
  clear hI
  rw [List.length_append] at C
  refine C.mono ?_
  intro e w3 hn
  obtain ⟨v, F3, rfl, hS3⟩ := hS.newRow hn
  clear hn
  go_wp2
  go_ret
  exact hS3.outRow 0 rfl
set_option maxHeartbeats 4000000 in
set_option maxRecDepth 100000 in
theorem entries03 (A B : Option Addr) (c d : Nat) (t : List ByteArray) (l : List DFunc) (f : Nat) (y : DFunc) (w : World) (hr : kFunc.Row w B l.length l) (hgd : isGoodB t l = true) (hy : l[f]? = some y) :
    Calls Try.prog 33 #[.agg #[.slice A t.length c, .slice B l.length d], .int .i64 f] w (NewRow (Knd.int .i64) 3 (entriesL l y.code) w) := by
  have hfit := modFit (isGood_mod hgd)
  have hym := List.mem_of_getElem? hy
  have n120 := hfit.c120 y hym
  have hHl : (headsL l y.code).length ≤ 1000 := by have := headsL_len l y.code; omega
  have C := heads03 A B c d t l f y
  have eE : entriesL l y.code = if (headsL l y.code).head? = some 0 then headsL l y.code else 0 :: headsL l y.code := rfl
  rw [eE]
  generalize headsL l y.code = HH at *
  have HY := Lib.hid hy
  clear hy eE
  have hS0 := (St.start w).made (.cells #[.slice A t.length c, .slice B l.length d] 31 (0, 0))
  rcases HH with _ | ⟨z, zs⟩
  · rw [if_neg (by simp)]
    go_enter Try.func33, Try.ntmps33
    go_wp2_with fail
    refine (C _ (hr.below hS0.bel) hgd HY.out).mono ?_
    intro e w2 hn
    obtain ⟨v, F, rfl, hS⟩ := hS0.newRow hn
    have hO := hS.own_ 0 rfl
    have hW := hS.bel
    obtain ⟨A3, c3, rfl, _, _⟩ := hS.row 0 rfl
    clear hn hS0 C hS
    rw [List.length_nil] at hO ⊢
    go_wp2_with (at_builtin; refine wp_app0 rfl _ _ rfl _ [] F hO hW rfl rfl hHl ?_; intro v' w3 hN)
    go_ret
    exact hN
  by_cases hz : z = 0
  · subst hz
    rw [if_pos (by simp)]
    go_enter Try.func33, Try.ntmps33
    go_wp2_with fail
    refine (C _ (hr.below hS0.bel) hgd HY.out).mono ?_
    intro e w2 hn
    obtain ⟨v, F, rfl, hS⟩ := hS0.newRow hn
    obtain ⟨g, cg, rfl, hgF⟩ := own_form (hS.get 0 rfl) (by simp)
    have x1 := hS.cell1 0 rfl 0 0 rfl
    clear hn hS0 C
    rw [List.length_cons] at hS ⊢
    go_wp2
    go_ret
    exact hS.outRow 0 rfl
  · rw [if_neg (by simpa using hz)]
    have hz2 : (z == 0) = false := by simpa using hz
    go_enter Try.func33, Try.ntmps33
    go_wp2_with fail
    refine (C _ (hr.below hS0.bel) hgd HY.out).mono ?_
    intro e w2 hn
    obtain ⟨v, F, rfl, hS⟩ := hS0.newRow hn
    obtain ⟨g, cg, rfl, hgF⟩ := own_form (hS.get 0 rfl) (by simp)
    have x1 := hS.cell1 0 rfl 0 z rfl
    have hO := hS.own_ 0 rfl
    have hW := hS.bel
    clear hn hS0 C hS
    rw [List.length_cons] at hO ⊢
    go_wp2_with (at_builtin; refine wp_app0 rfl _ _ rfl _ (z :: zs) F hO hW rfl rfl hHl ?_; intro v' w3 hN)
    go_ret
    exact hN
end Go.Proofs.Ytibfajlmecbhiaa.Dat
