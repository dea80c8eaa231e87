/- Guesses compared, and a row of them sorted by the library. -/
import Derived.Test.YthinhlcfpaaldaaGreatSoP
import Derived.Test.YthinhlcfpaaldaaGreatK5
import Derived.Test.YthinhlcfpaaldaaGreatLayS
import Derived.Test.YthinhlcfpaaldaaGreatM1
namespace Go.Proofs.YthinhlcfpaaldaaGreat.Dat
open Go Go.RowKit Go.Proofs.YthinhlcfpaaldaaGreat.Mem Go.Sort
set_option linter.unusedVariables false
set_option linter.unusedSimpArgs false
/-- Draws and new blocks alone. -/
def Gw (w w' : World) : Prop := ∃ q os, w' = grow (w.drewN q) os
theorem Gw.refl (w : World) : Gw w w := ⟨0, #[], by simp [grow, World.drewN]⟩
theorem Gw.alloc {w W : World} (h : Gw w W) (o : Obj) : Gw w (W.alloc o) := by
  obtain ⟨q, os, rfl⟩ := h
  exact ⟨q, os ++ #[o], by rw [alloc_eq_grow, grow_grow]⟩
theorem Gw.drew {w W : World} (h : Gw w W) : Gw w W.drew := by
  obtain ⟨q, os, rfl⟩ := h
  exact ⟨q + 1, os, by simp [grow, World.drewN, World.drew, Nat.add_assoc]⟩
theorem Gw.trans {w W V : World} (h : Gw w W) (k : Gw W V) : Gw w V := by
  obtain ⟨q, os, rfl⟩ := h
  obtain ⟨p, us, rfl⟩ := k
  exact ⟨q + p, os ++ us, by simp [grow, World.drewN, Nat.add_assoc]⟩
theorem Gw.below {w W : World} (h : Gw w W) : Below w.heap.size w W := by
  obtain ⟨q, os, rfl⟩ := h
  refine ⟨rfl, rfl, rfl, by simp [grow, World.drewN], fun k hk => ?_⟩
  rw [heap_grow_old _ _ (by simpa [World.drewN] using hk)]
  rfl
theorem gw9 {w W : World} (h : Gw w W := by repeat (first | with_reducible exact Gw.refl _ | with_reducible assumption | with_reducible refine Gw.alloc ?_ _ | with_reducible refine Gw.drew ?_ | with_reducible refine Gw.trans ?_ (by with_reducible assumption) | exact Gw.refl _ | refine Gw.alloc ?_ _ | refine Gw.drew ?_)) : Gw w W := h
theorem or3I (a b d : Int) (g c : Nat) (w : World) (h0 : w.cell? ⟨g, 0, none⟩ = some (.int .i64 a)) (h1 : w.cell? ⟨g, 1, none⟩ = some (.int .i64 b)) (h2 : w.cell? ⟨g, 2, none⟩ = some (.int .i64 d)) : Calls Tryz.prog 224 #[.slice (some ⟨g, 0, none⟩) 3 c] w fun e w' => e = .returned (.int .i64 (or2 a (or2 b d))) ∧ w = w' := by
  have R := Lib.hid (show ∀ x, x = or2 a (or2 b d) → Ending.returned (.int .i64 x) = .returned (.int .i64 (or2 a (or2 b d))) from fun x hx => by rw [hx])
  go_enter Tryz.func224, Tryz.ntmps224
  go_wp2
  go_loopw [8] (fun i wr => (i = .int .i64 0 ∨ (i = .int .i64 1 ∧ a = 0) ∨ (i = .int .i64 2 ∧ a = 0 ∧ b = 0) ∨ (i = .int .i64 3 ∧ a = 0 ∧ b = 0 ∧ d = 0)) ∧ w = wr) (fun i _ => 3 - (intOf i).toNat)
  case atStart => exact ⟨.inl rfl, rfl⟩
  case round =>
    obtain ⟨h, rfl⟩ := hrel
    rcases h with rfl | ⟨rfl, rfl⟩ | ⟨rfl, rfl, rfl⟩ | ⟨rfl, rfl, rfl, rfl⟩
    · by_cases ha : a = 0
      · subst ha
        go_wp2
        go_roundw
        case rel => simp
        case measure => simp [intOf]
      · have e := Lib.hid (R.out a (by simp [or2, ha]))
        have ha2 : (a != 0) = true := by simpa using ha
        clear ha
        go_wp2
        go_ret
        exact ⟨e.out, by first | rfl | trivial⟩
    · by_cases hb : b = 0
      · subst hb
        go_wp2
        go_roundw
        case rel => simp
        case measure => simp [intOf]
      · have e := Lib.hid (R.out b (by simp [or2, hb]))
        have hb2 : (b != 0) = true := by simpa using hb
        clear hb
        go_wp2
        go_ret
        exact ⟨e.out, by first | rfl | trivial⟩
    · by_cases hd : d = 0
      · subst hd
        go_wp2
        go_roundw
        case rel => simp
        case measure => simp [intOf]
      · have e := Lib.hid (R.out d (by simp [or2]))
        have hd2 : (d != 0) = true := by simpa using hd
        clear hd
        go_wp2
        go_ret
        exact ⟨e.out, by first | rfl | trivial⟩
    · have e := Lib.hid (R.out 0 (by simp [or2]))
      go_wp2
      go_ret
      exact ⟨e.out, by first | rfl | trivial⟩
set_option maxHeartbeats 4000000 in
set_option maxRecDepth 100000 in
theorem placesG (a b : DSpec) (w : World) : Calls Tryz.prog 225 #[.agg #[.int .i64 a.fn, .int .i64 a.pc, .int .i64 a.kind, .int .i64 a.target], .agg #[.int .i64 b.fn, .int .i64 b.pc, .int .i64 b.kind, .int .i64 b.target]] w fun e w' => e = .returned (.int .i64 (or2 (cmp2 a.fn b.fn) (cmp2 a.pc b.pc))) ∧ Gw w w' := by
  have hS := ((St.start w).made (.cells #[.int .i64 a.fn, .int .i64 a.pc, .int .i64 a.kind, .int .i64 a.target] 110 (0, 0))).madeAt (.cells #[.int .i64 b.fn, .int .i64 b.pc, .int .i64 b.kind, .int .i64 b.target] 110 (0, 0)) (w.heap.size + 1) (by simp)
  go_enter Tryz.func225, Tryz.ntmps225
  go_wp2
  go_region_held3 (fun w' => w'.cell? ⟨w.heap.size, 0, none⟩ = some (.int .i64 a.fn) ∧ w'.cell? ⟨w.heap.size, 1, none⟩ = some (.int .i64 a.pc) ∧ w'.cell? ⟨w.heap.size + 1, 0, none⟩ = some (.int .i64 b.fn) ∧ w'.cell? ⟨w.heap.size + 1, 1, none⟩ = some (.int .i64 b.pc)) (first | (exact ⟨hS.cell 1 rfl 0, hS.cell 1 rfl 1, hS.cell 0 rfl 0, hS.cell 0 rfl 1⟩) | (exact ⟨hS.drew.cell 1 rfl 0, hS.drew.cell 1 rfl 1, hS.drew.cell 0 rfl 0, hS.drew.cell 0 rfl 1⟩) | go_keep) (first | (go_at_call 226; refine (compareI _ _ _).mono ?_; rintro e w' ⟨rfl, rfl⟩) | (go_at_call 224; refine (orI (cmp2 a.fn b.fn) (cmp2 a.pc b.pc) _ _ _ (by exact blk_cell (blk_drew (blkAt _ _ (by simp))) 0) (by exact blk_cell (blk_drew (blkAt _ _ (by simp))) 1)).mono ?_; rintro e w' ⟨rfl, rfl⟩))
  go_wp2
  go_ret
  exact ⟨rfl, gw9⟩
def cmpS (a b : DSpec) : Int := or2 (or2 (cmp2 a.fn b.fn) (cmp2 a.pc b.pc)) (or2 (cmp2 a.target b.target) (cmp2 a.kind b.kind))
theorem or2_neg {x y : Int} : or2 x y < 0 ↔ x < 0 ∨ (x = 0 ∧ y < 0) := by
  unfold or2
  split <;> omega
theorem cmp2_neg {a b : Int} : cmp2 a b < 0 ↔ a < b := by
  unfold cmp2
  split
  · simp_all
  · split <;> simp <;> omega
theorem cmp2_zero {a b : Int} : cmp2 a b = 0 ↔ a = b := by
  unfold cmp2
  split
  · simp
    omega
  · split <;> simp <;> omega
theorem or2_nil {x y : Int} : or2 x y = 0 ↔ x = 0 ∧ y = 0 := by
  unfold or2
  split <;> omega
theorem cmpS_lt {a b : DSpec} : cmpS a b < 0 ↔ LtS a b := by
  unfold cmpS LtS
  simp only [or2_neg, cmp2_neg, or2_nil, cmp2_zero]
  omega
theorem swoS : SWO (ltOf cmpS) where
  irrefl x := by
    unfold ltOf
    exact decide_eq_false (fun h => lts_irr x (cmpS_lt.1 h))
  trans x y z h1 h2 := by
    unfold ltOf at h1 h2 ⊢
    exact decide_eq_true (cmpS_lt.2 (lts_trans (cmpS_lt.1 (of_decide_eq_true h1)) (cmpS_lt.1 (of_decide_eq_true h2))))
  ntrans x y z h1 h2 := by
    unfold ltOf at h1 h2 ⊢
    have k1 := of_decide_eq_false h1
    have k2 := of_decide_eq_false h2
    rw [cmpS_lt] at k1 k2
    refine decide_eq_false ?_
    rw [cmpS_lt]
    unfold LtS at k1 k2 ⊢
    omega
instance : Inhabited DSpec := ⟨zSpec⟩
def encS (x : DSpec) : List Value := [.int .i64 x.fn, .int .i64 x.pc, .int .i64 x.kind, .int .i64 x.target]
theorem encS_one : ∀ (x : DSpec), ∀ v ∈ encS x, v.oneCell' = true := by
  intro x v hv
  simp only [encS, List.mem_cons, List.not_mem_nil, or_false] at hv
  rcases hv with rfl | rfl | rfl | rfl <;> rfl
theorem specs_holds {e : Nat} {W : World} {g n c : Nat} {xs : List DSpec} {F : List Nat} (h : kSpec.Own e W (.slice (some ⟨g, 0, none⟩) n c) xs F) : HoldsK encS 4 W g 0 xs.toArray := by
  intro t ht
  have ht' : t < xs.length * 4 := by simpa using ht
  have hq : t / 4 < xs.length := by omega
  obtain ⟨Fs, hF, _⟩ := h.fs
  obtain ⟨A, c', hv, _, hr⟩ := h.row
  cases hv
  obtain ⟨ad, q0, q1, q2, q3, q4⟩ := kSpec_at hr (t / 4) xs[t / 4] (List.getElem?_eq_getElem hq)
  cases q0
  have e1 : xs.toArray[t / 4]! = xs[t / 4] := by simp [hq]
  rw [get_flatK _ _ _ _ (by simpa using ht'), e1]
  have hadd : ∀ k, (⟨g, 0, none⟩ : Addr).add k = ⟨g, k, none⟩ := fun k => by
    unfold Addr.add
    split
    · next h0 => rw [h0]
    · simp
  rw [hadd] at q1 q2 q3 q4
  refine ⟨?_, hF.free (0 + t)⟩
  have h4 : t % 4 = 0 ∨ t % 4 = 1 ∨ t % 4 = 2 ∨ t % 4 = 3 := by omega
  have ht4 : t = t / 4 * 4 + t % 4 := by omega
  rw [Nat.zero_add]
  rcases h4 with h4 | h4 | h4 | h4 <;> rw [h4] at ht4 ⊢
  · rw [show (⟨g, t, none⟩ : Addr) = ⟨g, t / 4 * 4, none⟩ by rw [← Nat.add_zero (t / 4 * 4), ← ht4]]
    exact q1
  · rw [show (⟨g, t, none⟩ : Addr) = ⟨g, t / 4 * 4 + 1, none⟩ by rw [← ht4]]
    exact q2
  · rw [show (⟨g, t, none⟩ : Addr) = ⟨g, t / 4 * 4 + 2, none⟩ by rw [← ht4]]
    exact q3
  · rw [show (⟨g, t, none⟩ : Addr) = ⟨g, t / 4 * 4 + 3, none⟩ by rw [← ht4]]
    exact q4
theorem heap_put {w : World} {g n : Nat} {os : Array Obj} {cur : Array Value} {e : TypeId} {fr : Nat × Nat} (d : Array Value) (hb : w.heap[g]? = some (.cells cur e fr)) :
    (grow (putRow id (Sort.ahead w n) g 0 d) os).heap[g]? = some (.cells (putCells id 0 d cur) e fr) := by
  have hg : g < w.heap.size := (Array.getElem?_eq_some_iff.1 hb).1
  rw [heap_grow_old _ _ (by simpa using hg)]
  simp [putRow, mapBlock, Sort.ahead, Array.getElem?_modify, hb, onCells]
theorem grown_put {w : World} {g n : Nat} {os : Array Obj} (d : Array Value) : w.grownBy (grow (putRow id (Sort.ahead w n) g 0 d) os) (some g) := by
  refine ⟨rfl, rfl, rfl, by simp, fun k hk hne => ?_⟩
  rw [heap_grow_old _ _ (by simpa using hk)]
  have : g ≠ k := fun e => hne (by rw [e])
  simp [putRow, mapBlock, Sort.ahead, Array.getElem?_modify, this]
theorem take_put (cur d : Array Value) (h : d.size ≤ cur.size) : (putCells id 0 d cur).toList.take d.size = d.toList := by
  apply List.ext_getElem?
  intro j
  by_cases hj : j < d.size
  · rw [List.getElem?_take_of_lt hj, Array.getElem?_toList]
    simp [putCells, hj, show j < cur.size by omega]
  · rw [List.getElem?_take_eq_none (by omega), List.getElem?_eq_none (by simp; omega)]
theorem flat_seg (ts : Array DSpec) (j : Nat) (p : DSpec) (hp : ts.toList[j]? = some p) : ((flatK encS 4 ts).toList.drop (j * 4)).take 4 = encS p := by
  have hj : j < ts.size := by simpa using (List.getElem?_eq_some_iff.1 hp).1
  have ej : ts[j]! = p := by
    rw [Array.getElem?_toList] at hp
    simp [Array.getElem!_eq_getD, Array.getD_eq_getD_getElem?, hp]
  apply List.ext_getElem?
  intro i
  by_cases hi : i < 4
  · rw [List.getElem?_take_of_lt hi, List.getElem?_drop, Array.getElem?_toList]
    have hs : j * 4 + i < ts.size * 4 := by omega
    have e1 := get_flatK encS 4 ts (j * 4 + i) hs
    rw [show (j * 4 + i) / 4 = j by omega, show (j * 4 + i) % 4 = i by omega, ej] at e1
    have e2 : (flatK encS 4 ts)[j * 4 + i]? = some ((flatK encS 4 ts)[j * 4 + i]!) := by
      rw [getElem!_pos _ _ (by rw [size_flatK]; exact hs), Array.getElem?_eq_getElem (by rw [size_flatK]; exact hs)]
    rw [e2, e1]
    have h4 : i = 0 ∨ i = 1 ∨ i = 2 ∨ i = 3 := by omega
    rcases h4 with rfl | rfl | rfl | rfl <;> rfl
  · rw [List.getElem?_eq_none (by rw [List.length_take]; omega), List.getElem?_eq_none (by show 4 ≤ i; omega)]
end Go.Proofs.YthinhlcfpaaldaaGreat.Dat
namespace Go.Proofs.YthinhlcfpaaldaaGreat.Mem
open Go Go.RowKit Go.Proofs.YthinhlcfpaaldaaGreat.Dat Go.Sort
/-- Behind the sort the same slice owns the sorted row. -/
theorem St.sortS {w W : World} {L : List Res} {e g c : Nat} {xs : List DSpec} {F : List Nat} (hS : St w L W) (i : Nat) (hi : L[i]? = some (Res.own kSpec e (.slice (some ⟨g, 0, none⟩) xs.length c) xs F)) (ts : Array DSpec) (hl : ts.size = xs.length) (n : Nat) (os : Array Obj) :
    St w (L.set i (Res.own kSpec e (.slice (some ⟨g, 0, none⟩) xs.length c) ts.toList F)) (sortWorldK encS 4 W g 0 n ts os) := by
  have hO : kSpec.Own e W (.slice (some ⟨g, 0, none⟩) xs.length c) xs F := hS.get i hi
  have hnd := hS.nodup i hi
  obtain ⟨inner, Fs, ho, hr, rfl⟩ := hO
  rcases ho.2 with ⟨h0, _⟩ | ⟨g', cap, cur, hv, hg0, hh, hnc, hcm, hcs, ht⟩
  · cases h0
  cases hv
  have hsz : (flatK encS 4 ts).size = xs.length * 4 := by rw [size_flatK, hl]
  have hle : (flatK encS 4 ts).size ≤ cur.size := by
    rw [hsz, hcs]
    exact Nat.mul_le_mul_right _ hnc
  have hFs : ∀ j Fj, Fs[j]? = some Fj → Fj = [] := fun j Fj hF => by
    have hj : j < xs.length := by rw [← hr.2.1]; exact (List.getElem?_eq_some_iff.1 hF).1
    exact (kSpec_Oi.1 (hr.2.2 j _ Fj (List.getElem?_eq_getElem hj) hF)).2
  have hls : ts.toList.length = xs.length := by simpa using hl
  have hown : kSpec.Own e (sortWorldK encS 4 W g 0 n ts os) (.slice (some ⟨g, 0, none⟩) xs.length c) ts.toList ([g] ++ Fs.flatten) := by
    unfold Knd.Own Knd.Els
    rw [hls]
    refine ⟨(flatK encS 4 ts).toList, Fs, ⟨?_, .inr ⟨g, c, _, rfl, Nat.zero_le _, heap_put _ hh, hnc, hcm, ?_, ?_⟩⟩, ⟨?_, ?_, fun j p Fj hp hF => ?_⟩, rfl⟩
    · show _ = _ * 4
      rw [Array.length_toList, hsz]
    · have hcs4 : cur.size = c * 4 := hcs
      show _ = _ * 4
      rw [← hcs4]
      simp [putCells]
    · have := take_put cur (flatK encS 4 ts) hle
      rw [hsz] at this
      exact this
    · show _ = _ * 4
      rw [Array.length_toList, hsz]
    · exact hr.2.1
    · exact kSpec_Oi.2 ⟨flat_seg ts j p hp, hFs j Fj hF⟩
  refine hS.upd (r' := Res.own kSpec e (.slice (some ⟨g, 0, none⟩) xs.length c) ts.toList ([g] ++ Fs.flatten)) i hi ?_ hown hnd (fun q hq => .inl hq)
  exact (But.grown (grown_put (w := W) (g := g) (n := n) (os := os) (flatK encS 4 ts))).mono (fun q hq => List.mem_append_left _ hq)
end Go.Proofs.YthinhlcfpaaldaaGreat.Mem
namespace Go.Proofs.YthinhlcfpaaldaaGreat.Dat
open Go Go.RowKit Go.Proofs.YthinhlcfpaaldaaGreat.Mem Go.Sort
end Go.Proofs.YthinhlcfpaaldaaGreat.Dat
