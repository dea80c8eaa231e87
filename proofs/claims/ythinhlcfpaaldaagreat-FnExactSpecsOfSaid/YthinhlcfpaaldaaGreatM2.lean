/- A bundle: AscA AscP Asc Asc2 Asc3 Lead Head Ent. -/
import Derived.Lib.SlicesCompact
import Derived.Test.YthinhlcfpaaldaaGreatK3
import Derived.RangeFuncBox
import Derived.RangeFuncLeaves
import Derived.Shelf.Abstract
import Derived.WalkKit
import Derived.OwnWalkIn
import Derived.TacticsInMore
import Derived.LoopNIn
import Derived.LoopIn
import Derived.Maps.AppendAt
import Derived.Sort.OwnSortedInts
import Derived.Lib.OwnBridge
import Derived.Test.YthinhlcfpaaldaaGreatK1
import Derived.Test.YthinhlcfpaaldaaGreatProg
import Derived.Sort.EveryDepth
import Derived.Test.YthinhlcfpaaldaaGreatLay
import Derived.LoopN
import Derived.Lib.Hide
import Derived.Laws.AppendOwnNone
/- Ascending lists, and the list that sorting and compacting gives. -/
namespace Go.Proofs.YthinhlcfpaaldaaGreat.Dat
open Go
set_option linter.unusedVariables false
set_option linter.unusedSimpArgs false
theorem asc_unique : ∀ (a b : List Int), a.Pairwise (· < ·) → b.Pairwise (· < ·) → (∀ z, z ∈ a ↔ z ∈ b) → a = b
  | [], [], _, _, _ => rfl
  | [], y :: b, _, _, h => absurd ((h y).2 (List.mem_cons_self)) (by simp)
  | x :: a, [], _, _, h => absurd ((h x).1 (List.mem_cons_self)) (by simp)
  | x :: a, y :: b, ha, hb, h => by
    obtain ⟨ha1, ha2⟩ := List.pairwise_cons.1 ha
    obtain ⟨hb1, hb2⟩ := List.pairwise_cons.1 hb
    have e : x = y := by
      rcases List.mem_cons.1 ((h x).1 List.mem_cons_self) with h1 | h1
      · exact h1
      rcases List.mem_cons.1 ((h y).2 List.mem_cons_self) with h2 | h2
      · exact h2.symm
      have := hb1 x h1
      have := ha1 y h2
      omega
    subst e
    rw [asc_unique a b ha2 hb2 (fun z => ?_)]
    constructor
    · intro hz
      rcases List.mem_cons.1 ((h z).1 (List.mem_cons_of_mem _ hz)) with h1 | h1
      · have := ha1 z hz
        omega
      · exact h1
    · intro hz
      rcases List.mem_cons.1 ((h z).2 (List.mem_cons_of_mem _ hz)) with h1 | h1
      · have := hb1 z hz
        omega
      · exact h1
theorem arr_get {zs : List Int} {j : Nat} {x : Int} (h : zs[j]? = some x) : zs.toArray[j]! = x := by
  obtain ⟨hj, e⟩ := List.getElem?_eq_some_iff.1 h
  rw [getElem!_pos zs.toArray j (by simpa using hj)]
  simpa using e
theorem le_of_asc {zs : List Int} (hs : zs.Pairwise (· ≤ ·)) {i j : Nat} {x y : Int} (hij : i ≤ j) (hx : zs[i]? = some x) (hy : zs[j]? = some y) : x ≤ y := by
  rcases Nat.lt_or_ge i j with h | h
  · obtain ⟨hi, ex⟩ := List.getElem?_eq_some_iff.1 hx
    obtain ⟨hj, ey⟩ := List.getElem?_eq_some_iff.1 hy
    have := List.pairwise_iff_getElem.1 hs i j hi hj h
    omega
  · obtain rfl : i = j := by omega
    rw [hx] at hy
    simp only [Option.some.injEq] at hy
    omega
theorem compact_mem {zs : List Int} {z : Int} : z ∈ Lib.compact zs ↔ z ∈ zs := by
  unfold Lib.compact Lib.compactUpTo
  rw [List.mem_map]
  constructor
  · rintro ⟨j, hj, rfl⟩
    have hjl := List.mem_range.1 (List.mem_filter.1 hj).1
    rw [arr_get (List.getElem?_eq_getElem hjl)]
    exact List.getElem_mem hjl
  · intro hz
    have hex : ∀ (n j : Nat), j ≤ n → zs[j]? = some z → ∃ k, k < zs.length ∧ zs[k]? = some z ∧ Lib.keeps zs.toArray k = true := by
      intro n
      induction n with
      | zero =>
        intro j hj hx
        obtain rfl : j = 0 := by omega
        exact ⟨0, (List.getElem?_eq_some_iff.1 hx).1, hx, by simp [Lib.keeps]⟩
      | succ n ih =>
        intro j hj hx
        have hjl := (List.getElem?_eq_some_iff.1 hx).1
        by_cases hk : Lib.keeps zs.toArray j = true
        · exact ⟨j, hjl, hx, hk⟩
        · have h2 : ¬ (j = 0 ∨ zs.toArray[j]! ≠ zs.toArray[j - 1]!) := by simpa [Lib.keeps] using hk
          have h3 : j ≠ 0 := fun e => h2 (.inl e)
          have h4 : zs.toArray[j]! = zs.toArray[j - 1]! := Classical.byContradiction fun e => h2 (.inr e)
          have hp : zs[j - 1]? = some zs[j - 1] := List.getElem?_eq_getElem (by omega)
          rw [arr_get hx, arr_get hp] at h4
          exact ih (j - 1) (by omega) (by rw [hp, ← h4])
    obtain ⟨j, hj, e⟩ := List.getElem_of_mem hz
    obtain ⟨k, h1, h2, h3⟩ := hex j j (Nat.le_refl _) (by rw [List.getElem?_eq_getElem hj, e])
    exact ⟨k, List.mem_filter.2 ⟨List.mem_range.2 h1, h3⟩, arr_get h2⟩
theorem compact_asc {zs : List Int} (hs : zs.Pairwise (· ≤ ·)) : (Lib.compact zs).Pairwise (· < ·) := by
  unfold Lib.compact Lib.compactUpTo
  rw [List.pairwise_map]
  refine List.Pairwise.imp_of_mem ?_ ((List.pairwise_lt_range (n := zs.length)).filter _)
  intro i j hi hj hij
  obtain ⟨hi1, _⟩ := List.mem_filter.1 hi
  obtain ⟨hj1, hj2⟩ := List.mem_filter.1 hj
  have hil := List.mem_range.1 hi1
  have hjl := List.mem_range.1 hj1
  have hpl : j - 1 < zs.length := by omega
  have hk : j = 0 ∨ zs.toArray[j]! ≠ zs.toArray[j - 1]! := by simpa [Lib.keeps] using hj2
  rw [arr_get (List.getElem?_eq_getElem hil), arr_get (List.getElem?_eq_getElem hjl)]
  rw [arr_get (List.getElem?_eq_getElem hjl), arr_get (List.getElem?_eq_getElem hpl)] at hk
  have h1 := le_of_asc hs (show i ≤ j - 1 by omega) (List.getElem?_eq_getElem hil) (List.getElem?_eq_getElem hpl)
  have h2 := le_of_asc hs (show j - 1 ≤ j by omega) (List.getElem?_eq_getElem hpl) (List.getElem?_eq_getElem hjl)
  rcases hk with h3 | h3 <;> omega
def ascL (zs : List Int) : List Int := Lib.compact (zs.mergeSort fun x y => decide (x ≤ y))
theorem ascL_mem {zs : List Int} {z : Int} : z ∈ ascL zs ↔ z ∈ zs := by
  unfold ascL
  rw [compact_mem, List.mem_mergeSort]
theorem ascL_asc (zs : List Int) : (ascL zs).Pairwise (· < ·) := by
  refine compact_asc ?_
  have := List.pairwise_mergeSort (le := fun x y : Int => decide (x ≤ y)) (fun a b c h1 h2 => by simp only [decide_eq_true_eq] at *; omega) (fun a b => by simp only [Bool.or_eq_true, decide_eq_true_eq]; omega) zs
  exact this.imp (fun h => by simpa using h)
theorem ascL_eq {zs ys : List Int} (hy : ys.Pairwise (· < ·)) (h : ∀ z, z ∈ zs ↔ z ∈ ys) : ascL zs = ys :=
  asc_unique _ _ (ascL_asc zs) hy (fun z => by rw [ascL_mem, h])
theorem compact_len (zs : List Int) : (Lib.compact zs).length ≤ zs.length := by
  unfold Lib.compact Lib.compactUpTo
  rw [List.length_map]
  exact Nat.le_trans (List.length_filter_le _ _) (by simp)
theorem ascL_len (zs : List Int) : (ascL zs).length ≤ zs.length := by
  unfold ascL
  exact Nat.le_trans (compact_len _) (by simp)
end Go.Proofs.YthinhlcfpaaldaaGreat.Dat

/- Leaders, heads and entries as the program gathers them: a list, sorted, each number once. -/
namespace Go.Proofs.YthinhlcfpaaldaaGreat.Dat
open Go Go.RowKit Go.Proofs.YthinhlcfpaaldaaGreat.Mem
set_option linter.unusedVariables false
set_option linter.unusedSimpArgs false
theorem markF_asc : ∀ (m : List Bool) (i : Nat), (markF m i).Pairwise (· < ·)
  | [], i => by simp [markF]
  | b :: m, i => by
    have ih := markF_asc m (i + 1)
    cases b
    · simpa [markF] using ih
    · simp only [markF, if_true, List.pairwise_cons]
      refine ⟨fun z hz => ?_, ih⟩
      obtain ⟨k, _, e⟩ := (mem_markF m (i + 1)).1 hz
      omega
theorem markF_len : ∀ (m : List Bool) (i : Nat), (markF m i).length ≤ m.length
  | [], i => by simp [markF]
  | b :: m, i => by
    have ih := markF_len m (i + 1)
    cases b <;> simp [markF] <;> omega
def headO (x : DIns) (pc : Nat) (h : Int) : List Int := if 0 ≤ h ∧ isJmp x.op = true ∧ x.a ≤ pc then [x.a] else []
def headR (d : List Int) : List DIns → Nat → List Int
  | [], _ => []
  | x :: c, pc => headO x pc (at0 d pc) ++ headR d c (pc + 1)
theorem mem_headO {x : DIns} {pc : Nat} {h z : Int} : z ∈ headO x pc h ↔ 0 ≤ h ∧ isJmp x.op = true ∧ x.a ≤ pc ∧ z = x.a := by
  unfold headO
  split
  · rename_i h1
    simp [h1.1, h1.2.1, h1.2.2]
  · rename_i h1
    constructor
    · intro h2
      simp at h2
    · rintro ⟨h2, h3, h4, _⟩
      exact absurd ⟨h2, h3, h4⟩ h1
theorem mem_headR {d : List Int} {z : Int} : ∀ (c : List DIns) (pc : Nat), z ∈ headR d c pc ↔ ∃ (j : Nat) (x : DIns), c[j]? = some x ∧ z ∈ headO x (pc + j) (at0 d ((pc + j : Nat) : Int))
  | [], pc => by simp [headR]
  | y :: c, pc => by
    rw [headR, List.mem_append, mem_headR c (pc + 1)]
    constructor
    · rintro (h | ⟨j, x, h1, h2⟩)
      · exact ⟨0, y, rfl, by simpa using h⟩
      · exact ⟨j + 1, x, by simpa using h1, by rwa [show pc + (j + 1) = pc + 1 + j by omega]⟩
    · rintro ⟨j, x, h1, h2⟩
      cases j with
      | zero =>
        have e : y = x := by simpa using h1
        subst e
        exact .inl (by simpa using h2)
      | succ j => exact .inr ⟨j, x, by simpa using h1, by rwa [show pc + 1 + j = pc + (j + 1) by omega]⟩
theorem rep_no {n i : Nat} : (List.replicate n false)[i]? ≠ some true := fun e => by
  rw [List.getElem?_replicate] at e
  split at e <;> simp at e
theorem heads_asc {l : List DFunc} {c : List DIns} (hc : ∀ x ∈ c, InsFit c.length x) : ascL (headR (depthsL l c) c 0) = headsL l c := by
  refine ascL_eq (markF_asc _ _) (fun z => ?_)
  unfold headsL
  rw [mem_headR, mem_markF]
  constructor
  · rintro ⟨j, x, hx, hz⟩
    obtain ⟨h1, h2, h3, h4⟩ := mem_headO.1 hz
    obtain ⟨ha0, ha1⟩ := (hc x (List.mem_of_getElem? hx)).jmp h2
    refine ⟨x.a.toNat, (headM_iff c 0 _ (by simp; omega)).2 (.inr ⟨j, x, hx, h1, h2, h3, rfl⟩), by omega⟩
  · rintro ⟨k, hk, e⟩
    have hkl : k < c.length := by
      have := (List.getElem?_eq_some_iff.1 hk).1
      rwa [headM_len, List.length_replicate] at this
    rcases (headM_iff c 0 _ (by simpa using hkl)).1 hk with h2 | ⟨j, x, hx, h0, hj, hle, ek⟩
    · exact absurd h2 rep_no
    · obtain ⟨ha0, ha1⟩ := (hc x (List.mem_of_getElem? hx)).jmp hj
      exact ⟨j, x, hx, mem_headO.2 ⟨h0, hj, hle, by omega⟩⟩
def entriesL (l : List DFunc) (c : List DIns) : List Int := if (headsL l c).head? = some 0 then headsL l c else 0 :: headsL l c
theorem heads_nn {l : List DFunc} {c : List DIns} {z : Int} (h : z ∈ headsL l c) : 0 ≤ z := by
  obtain ⟨k, _, e⟩ := (mem_markF _ _).1 h
  omega
theorem entries_asc {l : List DFunc} {c : List DIns} : ascL (headsL l c ++ [0]) = entriesL l c := by
  have hp : (headsL l c).Pairwise (· < ·) := markF_asc _ _
  unfold entriesL
  split
  · rename_i h
    refine ascL_eq hp (fun z => ?_)
    rw [List.mem_append, List.mem_singleton]
    constructor
    · rintro (h1 | rfl)
      · exact h1
      · exact List.mem_of_mem_head? h
    · exact .inl
  · rename_i h
    refine ascL_eq (List.pairwise_cons.2 ⟨fun z hz => ?_, hp⟩) (fun z => ?_)
    · have h0 := heads_nn hz
      rcases hh : headsL l c with _ | ⟨y, ys⟩
      · rw [hh] at hz
        simp at hz
      · rw [hh] at h hz hp
        have hy : y ≠ 0 := fun e => h (by rw [e]; rfl)
        have hy0 : 0 ≤ y := heads_nn (l := l) (c := c) (by rw [hh]; exact List.mem_cons_self)
        rcases List.mem_cons.1 hz with rfl | h2
        · omega
        · have := (List.pairwise_cons.1 hp).1 z h2
          omega
    · rw [List.mem_append, List.mem_singleton, List.mem_cons]
      constructor
      · rintro (h1 | h1)
        · exact .inr h1
        · exact .inl h1
      · rintro (h1 | h1)
        · exact .inr h1
        · exact .inl h1
theorem headsL_len (l : List DFunc) (c : List DIns) : (headsL l c).length ≤ c.length := by
  unfold headsL
  refine Nat.le_trans (markF_len _ _) ?_
  rw [headM_len, List.length_replicate]
  exact Nat.le_refl _
end Go.Proofs.YthinhlcfpaaldaaGreat.Dat

/- slices.Values and slices.AppendSeq, Collect, Sorted over it, at rows of whole numbers. -/
namespace Go.Proofs.YthinhlcfpaaldaaGreat.Dat
open Go Go.RowKit Go.Shelf Go.Proofs.YthinhlcfpaaldaaGreat.Mem
set_option linter.unusedVariables false
set_option linter.unusedSimpArgs false
attribute [local go_sem] Oper.semAt_some
theorem infoI64 : (Tryz.prog.info? 3).map (fun i => (i.zero, i.size, i.bytes)) = some (some (.int .i64 0), 1, 8) := by kernel_rfl
/-- What has come when k rounds are over. -/
def comeTo (f : Nat → Int) (k : Nat) : List Int := (List.range k).map f
theorem comeTo_succ (f : Nat → Int) (k : Nat) : comeTo f (k + 1) = comeTo f k ++ [f k] := by simp [comeTo, List.range_succ]
theorem comeTo_length (f : Nat → Int) (k : Nat) : (comeTo f k).length = k := by simp [comeTo]
theorem comeTo_all (zs : List Int) : comeTo (fun j => zs[j]?.getD 0) zs.length = zs := by
  apply List.ext_getElem
  · simp [comeTo]
  · intro i h1 h2
    simp [comeTo, h2]
theorem comeTo_take (zs : List Int) {k : Nat} (hk : k ≤ zs.length) : comeTo (fun j => zs[j]?.getD 0) k = zs.take k := by
  apply List.ext_getElem
  · simp [comeTo, hk]
  · intro i h1 h2
    have : i < zs.length := by simp [comeTo] at h1; omega
    simp [comeTo, this]
set_option maxRecDepth 100000 in
set_option maxHeartbeats 2000000 in
theorem values1_in (F : Fence) (n : Nat) (h7 : F.fn 360) (hro : F.round = none) (hn : 1 ≤ n) (l Bs n₀ b off len cap : Nat) (zs : List Int) (hreach : len * 8 ≤ 140737488351232) (hb : b < n₀) (J Jx : List Int → World → Prop)
    (hY : ∀ pre x W, J pre W → pre.length < len → YieldAt F (n - 1) Tryz.prog l #[.int .i64 x] W fun e W' =>
      (e = .returned (.bool true) ∧ J (pre ++ [x]) W' ∧ Below n₀ W W') ∨ (e = .returned (.bool false) ∧ Jx (pre ++ [x]) W'))
    (W : World) (hBs : W.cell? ⟨Bs, 0, none⟩ = some (.slice (some ⟨b, off, none⟩) len cap)) (hc : ∀ j, j < len → W.cell? ⟨b, off + j, none⟩ = some (.int .i64 (zs[j]?.getD 0))) (h0 : J [] W) :
    CallsIn F n Tryz.prog 360 #[.func (.yield l) #[] #[], .pointer (some ⟨Bs, 0, none⟩)] W fun e W' => (∃ v, e = .returned v) ∧
      ((∃ ys, ys = comeTo (fun j => zs[j]?.getD 0) len ∧ J ys W') ∨ (∃ pre, (∃ k, k ≤ len ∧ pre = comeTo (fun j => zs[j]?.getD 0) k) ∧ Jx pre W')) := by
  refine callsIn_of_wp Tryz.func360 rfl h7 ?_ hro
  simp only [Tryz.ntmps360, List.size_toArray, List.length_cons, List.length_nil, Nat.reduceAdd, Nat.reduceSub, Array.replicate_succ, Array.replicate_zero, List.push_toArray, List.append_toArray, List.nil_append, List.cons_append]
  gi_wp2
  gi_loopw [7] (fun i wr => ∃ k : Nat, k ≤ len ∧ i = .int .i64 k ∧ J (comeTo (fun j => zs[j]?.getD 0) k) wr ∧ Below n₀ W wr)
    (fun i _ => len - (intOf i).toNat)
  case atStart => exact ⟨0, Nat.zero_le _, rfl, h0, Below.refl _ _⟩
  case round =>
    obtain ⟨k, hk, rfl, hJs, hnx⟩ := hrel
    have hcx : k < len → wr.cell? ⟨b, off + k, none⟩ = some (.int .i64 (zs[k]?.getD 0)) := fun h => (hnx.cell (p := ⟨b, off + k, none⟩) hb).trans (hc k h)
    by_cases hlt : k < len
    · obtain ⟨fn, tmps, assign, body, hy, hR⟩ := hY _ (zs[k]?.getD 0) wr hJs (by rw [comeTo_length]; exact hlt)
      have hcx' := hcx hlt
      gi_wp2
      refine hR.mono ?_
      rintro e W3 (⟨rfl, hJ3, hk3⟩ | ⟨rfl, hJx3⟩)
      · gi_wp2
        go_roundw
        case rel => exact ⟨k + 1, by omega, by simp, by rw [comeTo_succ]; exact hJ3, hnx.trans hk3⟩
        case measure => simp [intOf]; omega
      · gi_wp2
        refine bodyPost_ret (results_none rfl _ _ _) rfl ?_
        exact ⟨⟨_, rfl⟩, .inr ⟨_, ⟨k + 1, by omega, (comeTo_succ _ _).symm⟩, hJx3⟩⟩
    · obtain rfl : k = len := by omega
      gi_wp2
      go_end0
      exact ⟨⟨_, rfl⟩, .inl ⟨_, rfl, hJs⟩⟩
/-- The slice value holds whole numbers, in a block below n₀; or it is nil and there are none. -/
def Ints (n₀ : Nat) (W : World) (sv : Value) (zs : List Int) : Prop :=
  (sv = .slice none 0 0 ∧ zs = []) ∨ ∃ b off cap, sv = .slice (some ⟨b, off, none⟩) zs.length cap ∧ b < n₀ ∧ ∀ j, j < zs.length → W.cell? ⟨b, off + j, none⟩ = some (.int .i64 (zs[j]?.getD 0))
theorem Ints.below {n₀ : Nat} {A B : World} (h : Below n₀ A B) {sv : Value} {zs : List Int} : Ints n₀ A sv zs → Ints n₀ B sv zs
  | .inl e => .inl e
  | .inr ⟨b, off, cap, e, hb, hc⟩ => .inr ⟨b, off, cap, e, hb, fun j hj => (h.cell (p := ⟨b, off + j, none⟩) hb).trans (hc j hj)⟩
set_option maxRecDepth 100000 in
set_option maxHeartbeats 1000000 in
theorem values1_nil_in (F : Fence) (n : Nat) (h7 : F.fn 360) (hro : F.round = none) (l Bs : Nat) (J : List Int → World → Prop) (W : World) (hBs : W.cell? ⟨Bs, 0, none⟩ = some (.slice none 0 0)) (h0 : J [] W) :
    CallsIn F n Tryz.prog 360 #[.func (.yield l) #[] #[], .pointer (some ⟨Bs, 0, none⟩)] W fun e W' => (∃ v, e = .returned v) ∧ J [] W' := by
  refine callsIn_of_wp Tryz.func360 rfl h7 ?_ hro
  simp only [Tryz.ntmps360, List.size_toArray, List.length_cons, List.length_nil, Nat.reduceAdd, Nat.reduceSub, Array.replicate_succ, Array.replicate_zero, List.push_toArray, List.append_toArray, List.nil_append, List.cons_append]
  gi_wp2
  gi_loopw [7] (fun i wr => i = .int .i64 0 ∧ J [] wr) (fun _ _ => 0)
  case atStart => exact ⟨rfl, h0⟩
  case round =>
    obtain ⟨rfl, hJs⟩ := hrel
    gi_wp2
    go_end0
    exact ⟨⟨_, rfl⟩, hJs⟩
set_option maxHeartbeats 1000000 in
theorem values_in (F : Fence) (n : Nat) (h5 : F.fn 340) (hro : F.round = none) (a : Option Addr) (len cap : Nat) (w : World) :
    CallsIn F n Tryz.prog 340 #[.slice a len cap] w fun e w' => e = .returned (.func (.func 360) #[] #[.pointer (some ⟨w.heap.size, 0, none⟩)]) ∧ w' = w.alloc (.cells #[.slice a len cap] 81) := by
  refine callsIn_of_wp Tryz.func340 rfl h5 ?_ hro
  simp only [Tryz.ntmps340, List.size_toArray, List.length_cons, List.length_nil, Nat.reduceAdd, Nat.reduceSub, Array.replicate_succ, Array.replicate_zero, List.push_toArray, List.append_toArray, List.nil_append, List.cons_append]
  gi_wp2
  go_ret
  exact ⟨rfl, rfl⟩
theorem values_stops (F : Fence) (n : Nat) (h7 : F.fn 360) (hro : F.round = none) (hn : 1 ≤ n) (Bs n₀ : Nat) (sv : Value) (zs : List Int) (hreach : zs.length * 8 ≤ 140737488351232) (w : World) (hBs : Bs < w.heap.size) (hn₀ : n₀ ≤ w.heap.size)
    (hc : w.cell? ⟨Bs, 0, none⟩ = some sv) (hI : Ints n₀ w sv zs) :
    SeqStopsK F n Tryz.prog 360 #[.pointer (some ⟨Bs, 0, none⟩)] (fun x : Int => #[Value.int .i64 x]) (Below n₀) (fun ys => ys = zs) (fun pre => pre <+: zs) zs.length w := fun l J Jx W hW _ _ hY h0 => by
  have hc' := (hW.cell (p := ⟨Bs, 0, none⟩) hBs).trans hc
  rcases hI.below (hW.mono hn₀) with ⟨rfl, rfl⟩ | ⟨b, off, cap, rfl, hb, hcs⟩
  · exact (values1_nil_in F n h7 hro l Bs J W hc' h0).mono fun e W' ⟨he, hj⟩ => ⟨he, .inl ⟨_, rfl, hj⟩⟩
  · refine (values1_in F n h7 hro hn l Bs n₀ b off zs.length cap zs hreach hb J Jx hY W hc' hcs h0).mono ?_
    rintro e W' ⟨he, ⟨ys, rfl, hj⟩ | ⟨pre, ⟨k, hk, rfl⟩, hj⟩⟩
    · exact ⟨he, .inl ⟨_, comeTo_all zs, hj⟩⟩
    · exact ⟨he, .inr ⟨_, by rw [comeTo_take zs hk]; exact List.take_prefix _ _, hj⟩⟩
set_option maxRecDepth 100000 in
set_option maxHeartbeats 2000000 in
/-- slices.AppendSeq(nil, slices.Values(zs)). -/
theorem appSeq_in (F : Fence) (n : Nat) (h3 : F.fn 363) (h5 : F.fn 360) (hro : F.round = none) (hn : 3 ≤ n) (Bs : Nat) (sv : Value) (zs : List Int) (hlen : zs.length ≤ maxLen) (hbytes : zs.length * 8 ≤ 140737488351232) (w : World) (hBs : Bs < w.heap.size) (hc : w.cell? ⟨Bs, 0, none⟩ = some sv) (hI : Ints w.heap.size w sv zs) :
    CallsIn F n Tryz.prog 363 #[.slice none 0 0, .func (.func 360) #[] #[.pointer (some ⟨Bs, 0, none⟩)]] w fun e W' => ∃ v, e = .returned v ∧ W'.ownsRow w.heap.size 3 1 v zs.length (zs.map (Value.int .i64)) ∧ (v = .slice none 0 0 ↔ zs = []) ∧ Below w.heap.size w W' := by
  have h1 : 1 ≤ n := by omega
  obtain ⟨i0, hi, hz0, hz1, hz2⟩ := info_parts infoI64
  refine callsIn_of_wp_marks Tryz.func363 rfl h3 ?_ hro
  simp only [Tryz.ntmps363, List.size_toArray, List.length_cons, List.length_nil, Nat.reduceAdd, Nat.reduceSub, Array.replicate_succ, Array.replicate_zero, List.push_toArray, List.append_toArray, List.nil_append, List.cons_append]
  gi_wp2
  have bO := Boxed.new w 81 (.slice none 0 0)
  have hB0 : Below w.heap.size w (w.alloc (.cells #[.slice none 0 0] 81)) := (Below.refl _ w).alloc (Nat.le_refl _) _
  refine wpIn_rangeFunc_ownG hro h1 (gf := 360) (lb := #[.pointer (some ⟨Bs, 0, none⟩)]) rfl h5 (enters_of Tryz.func360 (by kernel_rfl) rfl)
    (values_stops F (n - 1) h5 hro (by omega) Bs w.heap.size sv zs hbytes _ (by simp; omega) (by simp) ((hB0.cell (p := ⟨Bs, 0, none⟩) hBs).trans hc) (hI.below hB0)) belowK_t (belowK_b (by simp)) (Below.refl _ _) (fun _ => rfl)
    (fun pre W => (∃ v, Boxed W w.heap.size 81 v ∧ W.ownsRow w.heap.size 3 1 v pre.length (pre.map (Value.int .i64)) ∧ (v = .slice none 0 0 ↔ pre = [])) ∧ Below w.heap.size w W)
    (fun _ _ _ => False)
    (OwnFrom.and (Own.from (holdsRow_own w.heap.size w.heap.size 81 3 1 (fun pre => pre.length) (fun pre => pre.map (Value.int .i64)) (fun pre v => v = .slice none 0 0 ↔ pre = [])) _) (ownFrom_below (Nat.le_refl _) (by simp)))
    (fun _ _ _ _ _ hs _ _ => hs)
    ⟨⟨_, bO, World.ownsRow_nil _ _ _ _, by simp⟩, hB0⟩
    (fun x => { tmps := #[.slice none 0 0, .func (.func 360) #[] #[.pointer (some ⟨Bs, 0, none⟩)], .pointer (some ⟨w.heap.size, 0, none⟩), undef, .slice none 0 0, .int .i64 x, .func (.func 360) #[] #[.pointer (some ⟨Bs, 0, none⟩)], .int .i64 x, undef, undef, undef, undef, undef], defers := [] }) ?assign ?body ?done ?stop
  case assign =>
    intro l x W K hK
    gi_wp2
    exact hK
  case body =>
    rintro l pre x W ⟨⟨v, hv, hrow, hnil⟩, hB⟩ hlt
    have hc := hv.cell
    gi_wp2_with (gi_at_builtin; refine wpListIn_append_own _ rfl _ _ 81 rfl w.heap.size 3 i0 (.int .i64 0) 1 8 Tryz.underlying81 hi hz0 hz1 hz2 rfl (by decide) _ _ _ rfl (hrow.alloc _) ⟨W.heap.size, 0, none⟩ 1 1 [.int .i64 x] rfl rfl (cell_one_new _ _ _) (by simp [Value.oneCell']) (by omega) (by omega) (by have := hB.size; simp; omega) ?_; intro v' w1 hown' hgrow _; obtain ⟨g', cap', rfl⟩ := ownsRow_succ hown'; obtain ⟨hv1, hv2, hr2, hk2, hb2⟩ := hv.appended (by decide) hrow hB.size (Nat.le_refl _) hown' hgrow; have hc1 := hv1.cell; have hf1 := hv1.frozen)
    exact ⟨hk2.from _, hb2, ⟨_, hv2, by simpa using hr2, by simp⟩, hB.trans hb2⟩
  case done =>
    rintro D ys W hD rfl ⟨⟨v, hv, hrow, hnil⟩, hB⟩ hK
    have hc := hv.cell
    gi_wp2
    refine ⟨by simp, .inl ⟨_, _, rfl, run_takeDeferred hK, ?_⟩⟩
    exact ⟨_, results_tmp rfl _ _ _, v, rfl, ownsRow_putObj hrow _ hK rfl, hnil, hB.trans (belowK_b (w := w) (Nat.le_refl _) W D _ _ (by simp at hD; omega) hK rfl rfl)⟩
  case stop =>
    rintro D c pre W _ _ h _
    exact h.elim
set_option maxRecDepth 100000 in
set_option maxHeartbeats 1000000 in
theorem collect_in (F : Fence) (n : Nat) (h2 : F.fn 358) (h3 : F.fn 363) (h5 : F.fn 360) (hro : F.round = none) (hn : 4 ≤ n) (Bs : Nat) (sv : Value) (zs : List Int) (hlen : zs.length ≤ maxLen) (hbytes : zs.length * 8 ≤ 140737488351232) (w : World) (hBs : Bs < w.heap.size) (hc : w.cell? ⟨Bs, 0, none⟩ = some sv) (hI : Ints w.heap.size w sv zs) :
    CallsIn F n Tryz.prog 358 #[.func (.func 360) #[] #[.pointer (some ⟨Bs, 0, none⟩)]] w fun e W' => ∃ v, e = .returned v ∧ W'.ownsRow w.heap.size 3 1 v zs.length (zs.map (Value.int .i64)) ∧ (v = .slice none 0 0 ↔ zs = []) ∧ Below w.heap.size w W' := by
  refine callsIn_of_wp Tryz.func358 rfl h2 ?_ hro
  simp only [Tryz.ntmps358, List.size_toArray, List.length_cons, List.length_nil, Nat.reduceAdd, Nat.reduceSub, Array.replicate_succ, Array.replicate_zero, List.push_toArray, List.append_toArray, List.nil_append, List.cons_append]
  have h1 : 1 ≤ n := by omega
  have C := appSeq_in F (n - 1) h3 h5 hro (by omega) Bs sv zs hlen hbytes w hBs hc hI
  gi_wp2_with (gi_at_call 363; refine C.mono ?_; rintro e w' ⟨v, rfl, hrow, hnil, hb⟩)
  go_ret
  exact ⟨v, rfl, hrow, hnil, hb⟩
/-- slices.Collect(slices.Values(zs)), without a fence. -/
theorem collect (Bs : Nat) (sv : Value) (zs : List Int) (hlen : zs.length ≤ 1048576) (w : World) (hBs : Bs < w.heap.size) (hc : w.cell? ⟨Bs, 0, none⟩ = some sv) (hI : Ints w.heap.size w sv zs) :
    Calls Tryz.prog 358 #[.func (.func 360) #[] #[.pointer (some ⟨Bs, 0, none⟩)]] w fun e W' => ∃ v, e = .returned v ∧ W'.ownsRow w.heap.size 3 1 v zs.length (zs.map (Value.int .i64)) ∧ (v = .slice none 0 0 ↔ zs = []) ∧ Below w.heap.size w W' :=
  (callsIn_wide (n := 6)).1 (collect_in Fence.wide 6 trivial trivial trivial rfl (by omega) Bs sv zs (by unfold maxLen; omega) (by omega) w hBs hc hI)
theorem values (a : Option Addr) (len cap : Nat) (w : World) :
    Calls Tryz.prog 340 #[.slice a len cap] w fun e w' => e = .returned (.func (.func 360) #[] #[.pointer (some ⟨w.heap.size, 0, none⟩)]) ∧ w' = w.alloc (.cells #[.slice a len cap] 81) :=
  (callsIn_wide (n := 6)).1 (values_in Fence.wide 6 trivial rfl a len cap w)
end Go.Proofs.YthinhlcfpaaldaaGreat.Dat

/- Sorted and compacted: impl's ascending. -/
namespace Go.Proofs.YthinhlcfpaaldaaGreat.Dat
open Go Go.RowKit Go.Shelf Go.Sort Go.Proofs.YthinhlcfpaaldaaGreat.Mem
set_option linter.unusedVariables false
set_option linter.unusedSimpArgs false
set_option maxHeartbeats 1000000 in
set_option maxRecDepth 100000 in
theorem insNone (p : Option Addr) (cap : Nat) (w : World) : Calls Tryz.prog 365 #[.slice p 0 cap, .int .i64 0, .int .i64 0] w fun e w' => e = .returned (.tuple #[]) ∧ w' = w := by
  go_enter Tryz.func365, Tryz.ntmps365
  go_wp2
  refine wp_loop_rounds 1 ?_
  rw [rounds_succ]
  go_wp2
  go_end0
  exact ⟨rfl, rfl⟩
set_option maxHeartbeats 2000000 in
set_option maxRecDepth 100000 in
theorem pdqNone (p : Option Addr) (cap : Nat) (w : World) : Calls Tryz.prog 364 #[.slice p 0 cap, .int .i64 0, .int .i64 0, .int .i64 0] w fun e w' => e = .returned (.tuple #[]) ∧ w' = w := by
  go_enter Tryz.func364, Tryz.ntmps364
  go_wp2
  refine wp_loop_rounds 1 ?_
  rw [rounds_succ]
  go_wp2_with fail
  refine (insNone p cap _).mono ?_
  rintro e w' ⟨rfl, rfl⟩
  go_wp2
  (try simp only [Exit.inBlock, Exit.then])
  refine bodyPost_ret (results_none rfl _ _ _) rfl ?_
  exact ⟨rfl, rfl⟩
theorem len0 (w : World) : Calls Tryz.prog 223 #[.int .u64 0] w fun e w' => e = .returned (.int .i64 0) ∧ w' = w :=
  calls_of_every_depth fun D => (AnyS.bits_LenIn (ρ := laysSort_ren) { laysSort with } D 0 w (by omega) (by omega))
set_option maxHeartbeats 2000000 in
set_option maxRecDepth 100000 in
theorem sortNone (p : Option Addr) (cap : Nat) (w : World) : Calls Tryz.prog 359 #[.slice p 0 cap] w fun e w' => e = .returned (.tuple #[]) ∧ w' = w := by
  go_enter Tryz.func359, Tryz.ntmps359
  go_wp2_with fail
  refine (len0 _).mono ?_
  rintro e w' ⟨rfl, rfl⟩
  go_wp2_with fail
  refine (pdqNone p cap _).mono ?_
  rintro e w' ⟨rfl, rfl⟩
  go_wp2
  go_end0
  exact ⟨rfl, rfl⟩
theorem sortI (blk cap : Nat) (zs : List Int) (w : World) (hH : Holds (Value.int .i64) w blk 0 zs.toArray) (hblk : blk < w.heap.size) (hsz : zs.length < 4611686018427387904) :
    Calls Tryz.prog 359 #[.slice (some ⟨blk, 0, none⟩) zs.length cap] w fun e w' => e = .returned (.tuple #[]) ∧ ∃ n os, w' = grow (putRow (Value.int .i64) (Sort.ahead w n) blk 0 (zs.mergeSort fun x y => decide (x ≤ y)).toArray) os :=
  calls_of_every_depth fun D => AnyS.slices_Sort_int_in laysSort D blk 0 cap zs w hH hblk hsz
def OwnInts (w : World) (base : Nat) (v : Value) (zs : List Int) : Prop := w.ownsRow base 3 1 v zs.length (zs.map (Value.int .i64)) ∧ (v = .slice none 0 0 ↔ zs = [])
set_option maxHeartbeats 2000000 in
set_option maxRecDepth 100000 in
theorem sorted (Bs : Nat) (sv : Value) (zs : List Int) (hlen : zs.length ≤ 1048576) (w : World) (hBs : Bs < w.heap.size) (hc : w.cell? ⟨Bs, 0, none⟩ = some sv) (hI : Ints w.heap.size w sv zs) :
    Calls Tryz.prog 339 #[.func (.func 360) #[] #[.pointer (some ⟨Bs, 0, none⟩)]] w fun e W' => ∃ v, e = .returned v ∧ OwnInts W' w.heap.size v (zs.mergeSort fun x y => decide (x ≤ y)) ∧ Below w.heap.size w W' := by
  have hl : (zs.mergeSort fun x y => decide (x ≤ y)).length = zs.length := List.length_mergeSort zs
  go_enter Tryz.func339, Tryz.ntmps339
  go_wp2_with fail
  refine (collect Bs sv zs hlen _ hBs hc hI).mono ?_
  rintro e w1 ⟨v, rfl, hrow, hnil, hb⟩
  rcases hrow.2 with ⟨rfl, hz⟩ | ⟨gb, cap, cur, rfl, hbase, hgb, r1, r2, r3, r4⟩
  · obtain rfl := List.eq_nil_of_length_eq_zero hz
    have hrow' : OwnInts w1 w.heap.size (.slice none 0 0) (([] : List Int).mergeSort fun x y => decide (x ≤ y)) := ⟨⟨by simp, .inl ⟨rfl, by simp⟩⟩, by simp⟩
    clear hrow hnil hl hI
    go_wp2_with fail
    refine (sortNone none 0 _).mono ?_
    rintro e w' ⟨rfl, rfl⟩
    go_wp2
    go_ret
    exact ⟨_, rfl, hrow', hb⟩
  · have hH : Holds (Value.int .i64) w1 gb 0 zs.toArray := holds_of_blockI hgb (by simpa using r4)
    have hgl : gb < w1.heap.size := (Array.getElem?_eq_some_iff.1 hgb).1
    have hsz : zs.length < 4611686018427387904 := by omega
    have cS := sortI gb cap zs w1 hH hgl hsz
    have hne : zs ≠ [] := fun e => by have := hnil.2 e; cases this
    go_wp2_with fail
    refine cS.mono ?_
    rintro e w' ⟨rfl, nn, os, rfl⟩
    have hO := ownsRow_sortedI (base := w.heap.size) (n := nn) (os := os) hl hbase hgb r1 r2 r3
    have hb2 := hb.grown (grownBy_sortedI (n := nn) (os := os) (zs.mergeSort fun x y => decide (x ≤ y)).toArray) hb.size (fun j hj => by cases hj; exact hbase)
    generalize grow (putRow (Value.int .i64) (Sort.ahead w1 nn) gb 0 (zs.mergeSort fun x y => decide (x ≤ y)).toArray) os = w2 at hO hb2
    rw [← hl] at hO
    go_wp2
    go_ret
    refine ⟨_, rfl, ⟨?_, ?_⟩, hb2⟩
    · rw [hl] at hO ⊢; exact hO
    · constructor
      · intro e; cases e
      · intro e; exact absurd (List.eq_nil_of_length_eq_zero (by rw [← hl, e]; rfl)) hne
theorem compNone (a : Option Addr) (cap : Nat) (w : World) : Calls Tryz.prog 338 #[.slice a 0 cap] w fun e w' => e = .returned (.slice a 0 cap) ∧ w' = w := Any.slices_Compact_int_empty laysCompact a cap w
theorem compI (blk cap : Nat) (zs : List Int) (w : World) (hH : Holds (Value.int .i64) w blk 0 zs.toArray) (hsz : zs.length ≤ 9223372036854775807) (hcap : zs.length ≤ cap) :
    Calls Tryz.prog 338 #[.slice (some ⟨blk, 0, none⟩) zs.length cap] w fun e w' => e = .returned (.slice (some ⟨blk, 0, none⟩) (Lib.compact zs).length cap) ∧ ∃ q, w' = putRow (Value.int .i64) (Sort.ahead w q) blk 0 (Lib.compact zs ++ List.replicate (zs.length - (Lib.compact zs).length) 0).toArray := Any.slices_Compact_int laysCompact blk 0 cap zs w hH hsz hcap
theorem own_of_row {w0 w : World} {v : Value} {zs : List Int} (h : w.ownsRow w0.heap.size 3 1 v zs.length (zs.map (Value.int .i64))) (hb : Below w0.heap.size w0 w) : NewRow (Knd.int .i64) 3 zs w0 (.returned v) w := by
  have h0 : w.ownsRow 0 3 1 v zs.length (zs.map (Value.int .i64)) := ⟨h.1, by
    rcases h.2 with h1 | ⟨g, c, cur, e1, e2, e3, e4, e5, e6, e7⟩
    · exact .inl h1
    · exact .inr ⟨g, c, cur, e1, Nat.zero_le _, e3, e4, e5, e6, e7⟩⟩
  refine ⟨v, v.ownBlock.toList, rfl, ⟨zs.map (Value.int .i64), List.replicate zs.length [], h0, ⟨?_, ?_, fun j p Fj hp hF => ?_⟩, ?_⟩, ?_, ?_, hb⟩
  · show _ = _ * 1
    simp
  · simp
  · obtain ⟨hj, e2⟩ := List.getElem?_eq_some_iff.1 hp
    have e1 : Fj = [] := by
      obtain ⟨_, h⟩ := List.getElem?_eq_some_iff.1 hF
      simpa using h.symm
    subst e1
    refine ⟨?_, rfl⟩
    show ((zs.map (Value.int .i64)).drop (j * 1)).take 1 = [Value.int .i64 p]
    rw [Nat.mul_one, List.drop_eq_getElem_cons (by simpa using hj)]
    simp [e2]
  · simp
  · cases v.ownBlock <;> simp
  · intro g hg
    rcases h.2 with ⟨rfl, _⟩ | ⟨g', c, cur, rfl, e2, _⟩
    · simp [Value.ownBlock] at hg
    · simp [Value.ownBlock] at hg
      omega
set_option maxHeartbeats 2000000 in
set_option maxRecDepth 100000 in
/-- impl's ascending, of a row that the caller owns or reads. -/
theorem ascI (zs : List Int) (a : Option Addr) (c : Nat) (hlen : zs.length ≤ 1048576) (w : World) (hI : Ints w.heap.size w (.slice a zs.length c) zs) :
    Calls Tryz.prog 288 #[.slice a zs.length c] w (NewRow (Knd.int .i64) 3 (ascL zs) w) := by
  have hl : (zs.mergeSort fun x y => decide (x ≤ y)).length = zs.length := List.length_mergeSort zs
  have e0 : ascL zs = Lib.compact (zs.mergeSort fun x y => decide (x ≤ y)) := rfl
  have hcl := compact_len (zs.mergeSort fun x y => decide (x ≤ y))
  have hB0 : Below w.heap.size w (w.alloc (.cells #[.slice a zs.length c] 81)) := (Below.refl _ w).alloc (Nat.le_refl _) _
  have hI2 : Ints w.heap.size (w.alloc (.cells #[.slice a zs.length c] 81)) (.slice a zs.length c) zs := hI.below hB0
  have hI3 : Ints (w.alloc (.cells #[.slice a zs.length c] 81)).heap.size (w.alloc (.cells #[.slice a zs.length c] 81)) (.slice a zs.length c) zs := by
    rcases hI2 with h | ⟨b, off, cap, h1, h2, h3⟩
    · exact .inl h
    · exact .inr ⟨b, off, cap, h1, by simp; omega, h3⟩
  have cS := sorted w.heap.size (.slice a zs.length c) zs hlen (w.alloc (.cells #[.slice a zs.length c] 81)) (by simp) (Boxed.new w 81 _).cell hI3
  rw [e0]
  generalize (zs.mergeSort fun x y => decide (x ≤ y)) = ys at *
  have HL := Lib.hid hl
  clear hI hI2 hI3 e0 hl
  go_enter Tryz.func288, Tryz.ntmps288
  go_wp2_with fail
  refine (values a zs.length c _).mono ?_
  rintro e w' ⟨rfl, rfl⟩
  go_wp2_with fail
  refine cS.mono ?_
  rintro e w1 ⟨v, rfl, ⟨hrow, hnil⟩, hb⟩
  have hb1 : Below w.heap.size w w1 := hB0.trans (hb.mono (by simp))
  rcases hrow.2 with ⟨rfl, hz⟩ | ⟨gb, cap, cur, rfl, hbase, hgb, r1, r2, r3, r4⟩
  · obtain rfl := List.eq_nil_of_length_eq_zero hz
    have hN : NewRow (Knd.int .i64) 3 (Lib.compact ([] : List Int)) w (.returned (.slice none 0 0)) w1 := own_of_row (zs := []) ⟨rfl, .inl ⟨rfl, rfl⟩⟩ hb1
    clear hrow hnil hb hB0 hcl cS
    go_wp2_with fail
    refine (compNone none 0 _).mono ?_
    rintro e w' ⟨rfl, rfl⟩
    go_wp2
    go_ret
    exact hN
  · have hH : Holds (Value.int .i64) w1 gb 0 ys.toArray := holds_of_blockI hgb (by simpa using r4)
    have cC := compI gb cap ys w1 hH (by have := HL.out; omega) r1
    generalize hzz : Lib.compact ys = cs at *
    generalize hrr : (cs ++ List.replicate (ys.length - cs.length) 0) = rr at *
    have hrl : rr.length = ys.length := by rw [← hrr]; simp; omega
    have hrt : rr.take cs.length = cs := by rw [← hrr]; exact List.take_left' rfl
    have hO : ∀ q, (putRow (Value.int .i64) (Sort.ahead w1 q) gb 0 rr.toArray).ownsRow (w.alloc (.cells #[.slice a zs.length c] 81)).heap.size 3 1 (.slice (some ⟨gb, 0, none⟩) cs.length cap) cs.length (cs.map (Value.int .i64)) := fun q => by
      have := Lib.ownsRow_putRow (q := q) (k := cs.length) hrow (ys := rr) hrl hcl
      rwa [hrt] at this
    have hb2 : ∀ q, Below w.heap.size w (putRow (Value.int .i64) (Sort.ahead w1 q) gb 0 rr.toArray) := fun q => Lib.below_putRow hb1 (by simp at hbase; omega)
    clear hrow hnil hb hB0 hH cS
    go_wp2_with fail
    refine cC.mono ?_
    rintro e w2 ⟨rfl, q, hq⟩
    have hN : NewRow (Knd.int .i64) 3 cs w (.returned (.slice (some ⟨gb, 0, none⟩) cs.length cap)) w2 := by
      subst hq
      refine own_of_row ?_ (hb2 q)
      have := hO q
      refine ⟨this.1, ?_⟩
      rcases this.2 with h | ⟨g, c', cur', e1, e2, e3⟩
      · exact .inl h
      · exact .inr ⟨g, c', cur', e1, by simp at e2; omega, e3⟩
    clear hq hO hb2 cC
    go_wp2
    go_ret
    exact hN
end Go.Proofs.YthinhlcfpaaldaaGreat.Dat

/- Leaders and heads in the program. -/
namespace Go.Proofs.YthinhlcfpaaldaaGreat.Dat
open Go Go.RowKit Go.Proofs.YthinhlcfpaaldaaGreat.Mem
set_option linter.unusedVariables false
set_option linter.unusedSimpArgs false
theorem ints_own {W : World} {A : Option Addr} {n c e : Nat} {xs : List Int} {F : List Nat} (h : (Knd.int .i64).Own e W (.slice A n c) xs F) : Ints W.heap.size W (.slice A xs.length c) xs := by
  have hn := own_len h
  subst hn
  rcases xs with _ | ⟨x, xs⟩
  · obtain ⟨inner, Fs, ho, hr, rfl⟩ := h
    rcases ho.2 with ⟨e1, hz⟩ | ⟨g, cap, cur, e1, _, hg, _⟩
    · cases e1
      exact .inl ⟨rfl, rfl⟩
    · cases e1
      exact .inr ⟨g, 0, _, rfl, (Array.getElem?_eq_some_iff.1 hg).1, fun j hj => absurd hj (by simp)⟩
  · obtain ⟨g, c', e1, hgF⟩ := own_form h (by simp)
    cases e1
    refine .inr ⟨g, 0, _, rfl, h.lt g hgF, fun j hj => ?_⟩
    rw [Nat.zero_add]
    obtain ⟨y, hy⟩ := get_exU (x :: xs) j hj
    rw [hy]
    exact Knd.Own.cell1 h j y hy
theorem headO_lo {x : DIns} {pc : Nat} {h : Int} (hs : h < 0) : headO x pc h = [] := by unfold headO; rw [if_neg (by omega)]
theorem headO_no {x : DIns} {pc : Nat} {h : Int} (hs : isJmp x.op = false) : headO x pc h = [] := by unfold headO; rw [if_neg (by simp [hs])]
theorem headO_far {x : DIns} {pc : Nat} {h : Int} (hs : ¬ x.a ≤ pc) : headO x pc h = [] := by unfold headO; rw [if_neg (fun e => hs e.2.2)]
theorem headO_yes {x : DIns} {pc : Nat} {h : Int} (h0 : 0 ≤ h) (hj : isJmp x.op = true) (hle : x.a ≤ pc) : headO x pc h = [x.a] := by unfold headO; rw [if_pos ⟨h0, hj, hle⟩]
set_option maxHeartbeats 4000000 in
set_option maxRecDepth 100000 in
theorem headsI (A B : Option Addr) (c d : Nat) (t : List ByteArray) (l : List DFunc) (f : Nat) (y : DFunc) (w : World) (hr : kFunc.Row w B l.length l) (hgd : isGoodB t l = true) (hy : l[f]? = some y) :
    Calls Tryz.prog 289 #[.agg #[.slice A t.length c, .slice B l.length d], .int .i64 f] w (NewRow (Knd.int .i64) 3 (headsL l y.code) w) := by
  have hfit := modFit (isGood_mod hgd)
  have hm := hfit.n12
  have hym := List.mem_of_getElem? hy
  have n1 := hfit.c1 y hym
  have n120 := hfit.c120 y hym
  have hH := hfit.hgt hym
  obtain ⟨ad, A2, c2, rfl, _, _, q2', hq, hr2⟩ := kFunc_at hr f y hy
  have hfl : f < l.length := (List.getElem?_eq_some_iff.1 hy).1
  have HY := Lib.hid hy
  have hAsc := heads_asc (l := l) (c := y.code) (fun x hx => hfit.fit hym hx)
  obtain ⟨Q, hQ⟩ : ∃ Q, (headR (depthsL l y.code) y.code 0) = Q := ⟨_, rfl⟩
  have HQ0 : Hid (([] : List Int) ++ headR (depthsL l y.code) (y.code.drop 0) 0 = Q) := Lib.hid hQ
  rw [hQ] at hAsc
  rw [← hAsc]
  clear hy hAsc hQ
  have hS00 := (St.start w).made (.cells #[.slice A t.length c, .slice (some ad) l.length d] 36 (0, 0))
  have hS0 := hS00.litAt (enc := Value.int .i64) (h1 := fun _ => rfl) (e := 3) [] #[] rfl (w.heap.size + 1) (by simp) 0 rfl (by simp)
  clear hS00
  go_enter Tryz.func289, Tryz.ntmps289
  go_wp2_with fail
  refine (depthsI A (some ad) c d t l f y _ (hr.below hS0.bel) hfit HY.out).mono ?_
  intro e w2 hn
  obtain ⟨v, F, rfl, hS1⟩ := hS0.newRow hn
  obtain ⟨g, cg, hv', hgF⟩ := own_form (hS1.get 0 rfl) (by rw [hH.1]; omega)
  rw [hH.1] at hv'
  subst hv'
  have q2 := kept hS1.bel q2'
  have x0 := hS1.cell 2 rfl
  clear hn hS0
  go_wp2
  go_loopw [20, 5] (fun i o wr => ∃ (pc : Nat) (acc : List Int) (Fo : List Nat), pc ≤ y.code.length ∧ i = .int .i64 pc ∧ Hid (acc ++ headR (depthsL l y.code) (y.code.drop pc) pc = Q) ∧ acc.length ≤ pc ∧ St w [Res.own (Knd.int .i64) 3 (.slice (some ⟨g, 0, none⟩) y.code.length cg) (depthsL l y.code) F, Res.own (Knd.int .i64) 3 o acc Fo] wr) (fun i _ _ => y.code.length - (intOf i).toNat)
  case atStart => exact ⟨0, _, _, by omega, rfl, HQ0, by simp, (hS1.perm (List.Perm.trans (List.Perm.cons _ (List.Perm.swap _ _ _)) (List.Perm.swap _ _ _))).drop⟩
  case round =>
    clear hS1 q2 x0
    obtain ⟨pc, acc, Fo, hpc, rfl, hQ, hal, hS⟩ := hrel
    by_cases hlt : pc < y.code.length
    · obtain ⟨x, hx⟩ := get_exU y.code pc hlt
      have HQ : Hid (acc ++ (headO x pc (at0 (depthsL l y.code) pc) ++ headR (depthsL l y.code) (y.code.drop (pc + 1)) (pc + 1)) = Q) := Lib.hid (by
        obtain ⟨hk, e⟩ := List.getElem?_eq_some_iff.1 hx
        have := hQ.out
        rw [List.drop_eq_getElem_cons hk, e] at this
        exact this)
      obtain ⟨ad2, rfl, r0, r1⟩ := kIns_at (hr2.below hS.bel) pc x hx
      have hlen : pc < (depthsL l y.code).length := by rw [hH.1]; exact hlt
      have u0 := hS.cell1 0 rfl pc _ (at0_get hlen)
      obtain ⟨h, hh⟩ : ∃ h, at0 (depthsL l y.code) pc = h := ⟨_, rfl⟩
      rw [hh] at u0 HQ
      have gl : g < wr.heap.size := hS.lts 0 rfl g hgF
      have hacc : acc.length ≤ 1000 := by omega
      clear hx hQ hlen hh
      by_cases h0 : h < 0
      · have HQ2 := Lib.hid (show acc ++ headR (depthsL l y.code) (y.code.drop (pc + 1)) (pc + 1) = Q by have := HQ.out; rwa [headO_lo h0, List.nil_append] at this)
        go_wp2
        go_roundw
        case rel => exact ⟨pc + 1, acc, Fo, by omega, by go_num, HQ2, by omega, hS.al _⟩
        case measure => simp [intOf]; omega
      have h0' : 0 ≤ h := by omega
      have hS1 := hS.made (.cells #[.int .i64 x.op, .int .i64 x.a] 305 (0, 0))
      cases hj : isJmp x.op
      · have HQ2 := Lib.hid (show acc ++ headR (depthsL l y.code) (y.code.drop (pc + 1)) (pc + 1) = Q by have := HQ.out; rwa [headO_no hj, List.nil_append] at this)
        have HJ := Lib.hid hj
        clear hj
        go_wp2_with fail
        refine (isJumpI _ _ _ HJ.out).mono ?_
        rintro e w' ⟨rfl, hb⟩
        go_wp2
        go_roundw
        case rel => exact ⟨pc + 1, acc, Fo, by omega, by go_num, HQ2, by omega, (hS.al _).step hb⟩
        case measure => simp [intOf]; omega
      have HJ := Lib.hid hj
      by_cases hle : x.a ≤ pc
      · have HQ2 := Lib.hid (show (acc ++ [x.a]) ++ headR (depthsL l y.code) (y.code.drop (pc + 1)) (pc + 1) = Q by have := HQ.out; rwa [headO_yes h0' hj hle, ← List.append_assoc] at this)
        clear hj HQ
        go_wp2_with fail
        refine (isJumpI _ _ _ HJ.out).mono ?_
        rintro e w' ⟨rfl, hb⟩
        replace hS := hS1.step hb
        clear hb hS1 u0
        have x8 := hS.cell 0 rfl
        go_wp2_with (at_builtin; refine Knd.wp_app1 rfl _ _ _ rfl 3 Tryz.underlying81 (.int .i64 0) 8 infoInt rfl rfl ((hS.al _).own_ 2 rfl) _ _ _ _ _ (blkAt _ _ (by simp)) rfl (by (try simp [maxLen]); (try omega)) (by (try simp); (try omega)) ?_; rintro gq cq wq hO hB hg; have hSq := (hS.al _).app1 2 rfl hO hB hg; clear hO hB hg hS; have hS := hSq; clear hSq; have x9 := hS.cell 0 rfl)
        go_roundw
        case rel => exact ⟨pc + 1, _, _, by omega, by go_num, HQ2, by simp; omega, hS.drop⟩
        case measure => simp [intOf]; omega
      · have HQ2 := Lib.hid (show acc ++ headR (depthsL l y.code) (y.code.drop (pc + 1)) (pc + 1) = Q by have := HQ.out; rwa [headO_far hle, List.nil_append] at this)
        clear hj HQ
        go_wp2_with fail
        refine (isJumpI _ _ _ HJ.out).mono ?_
        rintro e w' ⟨rfl, hb⟩
        replace hS := hS1.step hb
        clear hb hS1 u0
        have x8 := hS.cell 0 rfl
        go_wp2
        go_roundw
        case rel => exact ⟨pc + 1, acc, Fo, by omega, by go_num, HQ2, by omega, hS.drop⟩
        case measure => simp [intOf]; omega
    · obtain rfl : pc = y.code.length := by omega
      have eA : acc = Q := by have := hQ.out; rw [List.drop_length] at this; simpa [headR] using this
      subst eA
      clear hQ HQ0
      obtain ⟨A3, c3, rfl, _, _⟩ := hS.row 1 rfl
      have hI := ints_own (hS.own_ 1 rfl)
      have C := ascI acc A3 c3 (by omega) _ hI
      clear hI
      go_wp2_with fail
      refine C.mono ?_
      intro e w3 hn
      obtain ⟨v, F3, rfl, hS3⟩ := hS.newRow hn
      clear hn
      go_wp2
      go_ret
      exact hS3.outRow 0 rfl
theorem wp_app0 {ops : Array Oper} {rest : List Oper} {o : Oper} {a : Act} {Q : Exit → Act → World → Prop} {w0 w2 : World} (hgd : o.guard = none) (s x : Operand)
    (ho : o.op = .call { callee := .builtin .append, args := #[s, x], argTypes := #[81, 81] }) (v2 : Value) (HH : List Int) (F : List Nat) (hO : (Knd.int .i64).Own 3 w2 v2 HH F) (hb : Below w0.heap.size w0 w2)
    (hs : a.eval s = .slice (some ⟨w2.heap.size, 0, none⟩) 1 1) (hx : a.eval x = v2) (hl : HH.length ≤ 1000)
    (h : ∀ v' w3, NewRow (Knd.int .i64) 3 (0 :: HH) w0 (.returned v') w3 → wpList Tryz.prog ops Q rest (a.put o.dst v') w3) : wpList Tryz.prog ops Q (o :: rest) a (w2.alloc (.cells #[.int .i64 0] 3 (0, 0))) := by
  obtain ⟨i0, hi, hz0, hz1, hz2⟩ := info_parts infoInt
  have hlit : (w2.alloc (.cells #[.int .i64 0] 3 (0, 0))).ownsRow w0.heap.size 3 1 (.slice (some ⟨w2.heap.size, 0, none⟩) 1 1) 1 [.int .i64 0] := World.ownsRow_lit w2 #[.int .i64 0] 1 hb.size (by decide) rfl
  have hb2 : Below w0.heap.size w0 (w2.alloc (.cells #[.int .i64 0] 3 (0, 0))) := hb.alloc hb.size _
  have fin : ∀ v' w3, w3.ownsRow w0.heap.size 3 1 v' (1 + HH.length) ([Value.int .i64 0] ++ HH.map (Value.int .i64)) → (w2.alloc (.cells #[.int .i64 0] 3 (0, 0))).grownBy w3 (some w2.heap.size) → NewRow (Knd.int .i64) 3 (0 :: HH) w0 (.returned v') w3 := fun v' w3 ho hg => by
    refine own_of_row ?_ (hb2.grown hg hb2.size (fun k e => by cases e; exact hb.size))
    rw [Nat.add_comm] at ho
    exact ho
  obtain ⟨inner, Fs, ho2, hr, rfl⟩ := id hO
  rcases ho2.2 with ⟨rfl, hz⟩ | ⟨g, cap, cur, rfl, _, hg, _⟩
  · obtain rfl := List.eq_nil_of_length_eq_zero hz
    refine wpList_append_own_none hgd s x 81 ho w0.heap.size 3 i0 1 Tryz.underlying81 hi _ 1 [.int .i64 0] hs hlit hx ?_
    refine h _ _ (own_of_row hlit hb2)
  · have hgl : g < w2.heap.size := (Array.getElem?_eq_some_iff.1 hg).1
    refine wpList_append_own _ hgd s x 81 ho w0.heap.size 3 i0 (.int .i64 0) 1 8 Tryz.underlying81 hi hz0 hz1 hz2 rfl (by decide) _ 1 [.int .i64 0] hs hlit ⟨g, 0, none⟩ HH.length cap (HH.map (Value.int .i64)) hx (by simp) (fun j u hu => ?_) (fun u hu => ?_) (by unfold maxLen; omega) (by omega) (by have := hb2.size; exact this) ?_
    · rw [List.getElem?_map] at hu
      obtain ⟨y, hy, rfl⟩ := Option.map_eq_some_iff.1 hu
      have h1 := Knd.Own.cell1 hO j y hy
      have h2 := ((Below.refl w2.heap.size w2).alloc (Nat.le_refl _) (.cells #[.int .i64 0] 3 (0, 0))).cell (p := ⟨g, j, none⟩) hgl
      have e9 : (⟨g, 0, none⟩ : Addr).add j = ⟨g, j, none⟩ := by unfold Addr.add; split <;> simp_all
      rw [e9]
      exact h2.trans h1
    · obtain ⟨y, _, rfl⟩ := List.mem_map.1 hu
      rfl
    · intro v' w3 h1 h2 _
      exact h v' w3 (fin v' w3 h1 h2)
set_option maxHeartbeats 4000000 in
set_option maxRecDepth 100000 in
theorem entriesI (A B : Option Addr) (c d : Nat) (t : List ByteArray) (l : List DFunc) (f : Nat) (y : DFunc) (w : World) (hr : kFunc.Row w B l.length l) (hgd : isGoodB t l = true) (hy : l[f]? = some y) :
    Calls Tryz.prog 217 #[.agg #[.slice A t.length c, .slice B l.length d], .int .i64 f] w (NewRow (Knd.int .i64) 3 (entriesL l y.code) w) := by
  have hfit := modFit (isGood_mod hgd)
  have hym := List.mem_of_getElem? hy
  have n120 := hfit.c120 y hym
  have hHl : (headsL l y.code).length ≤ 1000 := by have := headsL_len l y.code; omega
  have eA := entries_asc (l := l) (c := y.code)
  have C := headsI A B c d t l f y
  rw [← eA]
  generalize headsL l y.code = HH at *
  have HY := Lib.hid hy
  clear hy eA
  have hS0 := (St.start w).made (.cells #[.slice A t.length c, .slice B l.length d] 36 (0, 0))
  go_enter Tryz.func217, Tryz.ntmps217
  go_wp2_with fail
  refine (C _ (hr.below hS0.bel) hgd HY.out).mono ?_
  intro e w2 hn
  obtain ⟨v, F, rfl, hS⟩ := hS0.newRow hn
  clear hn hS0 C
  obtain ⟨A3, c3, rfl, _, _⟩ := hS.row 0 rfl
  go_wp2_with (at_builtin; refine Knd.wp_app1 rfl _ _ _ rfl 3 Tryz.underlying81 (.int .i64 0) 8 infoInt rfl rfl ((hS.al _).own_ 0 rfl) _ _ _ _ _ (blkAt _ _ (by simp)) rfl (by (try simp [maxLen]); (try omega)) (by (try simp); (try omega)) ?_; rintro gq cq wq hO hB hg; have hSq := (hS.al _).app1 0 rfl hO hB hg; clear hO hB hg hS; have hS := hSq; clear hSq)
  have hI := ints_own (hS.own_ 0 rfl)
  have C := ascI _ _ cq (by simp; omega) _ hI
  clear hI
  rw [List.length_append] at C
  refine C.mono ?_
  intro e w3 hn
  obtain ⟨v, F3, rfl, hS3⟩ := hS.newRow hn
  clear hn
  go_wp2
  go_ret
  exact hS3.outRow 0 rfl
set_option maxHeartbeats 4000000 in
set_option maxRecDepth 100000 in
theorem entries03 (A B : Option Addr) (c d : Nat) (t : List ByteArray) (l : List DFunc) (f : Nat) (y : DFunc) (w : World) (hr : kFunc.Row w B l.length l) (hgd : isGoodB t l = true) (hy : l[f]? = some y) :
    Calls Tryz.prog 208 #[.agg #[.slice A t.length c, .slice B l.length d], .int .i64 f] w (NewRow (Knd.int .i64) 3 (entriesL l y.code) w) := by
  have hfit := modFit (isGood_mod hgd)
  have hym := List.mem_of_getElem? hy
  have n120 := hfit.c120 y hym
  have hHl : (headsL l y.code).length ≤ 1000 := by have := headsL_len l y.code; omega
  have C := heads03 A B c d t l f y
  have eE : entriesL l y.code = if (headsL l y.code).head? = some 0 then headsL l y.code else 0 :: headsL l y.code := rfl
  rw [eE]
  generalize headsL l y.code = HH at *
  have HY := Lib.hid hy
  clear hy eE
  have hS0 := (St.start w).made (.cells #[.slice A t.length c, .slice B l.length d] 36 (0, 0))
  rcases HH with _ | ⟨z, zs⟩
  · rw [if_neg (by simp)]
    go_enter Tryz.func208, Tryz.ntmps208
    go_wp2_with fail
    refine (C _ (hr.below hS0.bel) hgd HY.out).mono ?_
    intro e w2 hn
    obtain ⟨v, F, rfl, hS⟩ := hS0.newRow hn
    have hO := hS.own_ 0 rfl
    have hW := hS.bel
    obtain ⟨A3, c3, rfl, _, _⟩ := hS.row 0 rfl
    clear hn hS0 C hS
    rw [List.length_nil] at hO ⊢
    go_wp2_with (at_builtin; refine wp_app0 rfl _ _ rfl _ [] F hO hW rfl rfl hHl ?_; intro v' w3 hN)
    go_ret
    exact hN
  by_cases hz : z = 0
  · subst hz
    rw [if_pos (by simp)]
    go_enter Tryz.func208, Tryz.ntmps208
    go_wp2_with fail
    refine (C _ (hr.below hS0.bel) hgd HY.out).mono ?_
    intro e w2 hn
    obtain ⟨v, F, rfl, hS⟩ := hS0.newRow hn
    obtain ⟨g, cg, rfl, hgF⟩ := own_form (hS.get 0 rfl) (by simp)
    have x1 := hS.cell1 0 rfl 0 0 rfl
    clear hn hS0 C
    rw [List.length_cons] at hS ⊢
    go_wp2
    go_ret
    exact hS.outRow 0 rfl
  · rw [if_neg (by simpa using hz)]
    have hz2 : (z == 0) = false := by simpa using hz
    go_enter Tryz.func208, Tryz.ntmps208
    go_wp2_with fail
    refine (C _ (hr.below hS0.bel) hgd HY.out).mono ?_
    intro e w2 hn
    obtain ⟨v, F, rfl, hS⟩ := hS0.newRow hn
    obtain ⟨g, cg, rfl, hgF⟩ := own_form (hS.get 0 rfl) (by simp)
    have x1 := hS.cell1 0 rfl 0 z rfl
    have hO := hS.own_ 0 rfl
    have hW := hS.bel
    clear hn hS0 C hS
    rw [List.length_cons] at hO ⊢
    go_wp2_with (at_builtin; refine wp_app0 rfl _ _ rfl _ (z :: zs) F hO hW rfl rfl hHl ?_; intro v' w3 hN)
    go_ret
    exact hN
end Go.Proofs.YthinhlcfpaaldaaGreat.Dat
