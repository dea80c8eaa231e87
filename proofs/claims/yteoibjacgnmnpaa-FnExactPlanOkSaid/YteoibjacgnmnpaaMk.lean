/- An element of a row of the call's own: read with what it owns, one of its cells written, or its inner rows turned. -/
import Derived.Test.YteoibjacgnmnpaaMarkB
import Derived.Test.YteoibjacgnmnpaaSt1
namespace Go.Proofs.Yteoibjacgnmnpaa.Mem
open Go Go.RowKit
set_option linter.unusedVariables false
set_option linter.unusedSimpArgs false
namespace Knd
variable {α : Type} {d : Knd α} {e : Nat} {w : World} {xs : List α} {Fs : List (List Nat)} {g n c : Nat}
/-- A row that stands at a block: its cells by name. -/
structure At (d : Knd α) (e : Nat) (w : World) (g n c : Nat) (xs : List α) (Fs : List (List Nat)) (inner : List Value) : Prop where
  row : w.ownsRow 0 e d.sz (.slice (some ⟨g, 0, none⟩) n c) xs.length inner
  els : Els d w xs inner Fs
  nd : (g :: Fs.flatten).Nodup
theorem OwnF.toAt (h : OwnF d e w (.slice (some ⟨g, 0, none⟩) n c) xs Fs) (hnd : (g :: Fs.flatten).Nodup) : ∃ inner, At d e w g n c xs Fs inner := by
  obtain ⟨inner, ho, hr⟩ := h
  exact ⟨inner, ho, hr, hnd⟩
namespace At
variable {inner : List Value}
theorem ownF (h : At d e w g n c xs Fs inner) : OwnF d e w (.slice (some ⟨g, 0, none⟩) n c) xs Fs := ⟨inner, h.row, h.els⟩
theorem num (h : At d e w g n c xs Fs inner) : n = xs.length := by
  rcases h.row.2 with ⟨h1, _⟩ | ⟨g', cap', cur, h1, _⟩
  · cases h1
  · injection h1
theorem cell (h : At d e w g n c xs Fs inner) (k : Nat) (hk : k < xs.length * d.sz) : w.cell? ⟨g, k, none⟩ = inner[k]? := by
  have hn := h.num
  subst hn
  exact World.ownsRow.cellAt h.row k hk
theorem free (h : At d e w g n c xs Fs inner) (k : Nat) : w.frozen? ⟨g, k, none⟩ = false := by
  have hn := h.num
  subst hn
  exact World.ownsRow.frozenAt h.row k
/-- The cells of one element. -/
def seg (d : Knd α) (inner : List Value) (j : Nat) : List Value := (inner.drop (j * d.sz)).take d.sz
theorem elem (h : At d e w g n c xs Fs inner) (j : Nat) (x : α) (hx : xs[j]? = some x) : ∃ Fj, Fs[j]? = some Fj ∧ d.O w x (seg d inner j) Fj ∧ (∀ i u, (seg d inner j)[i]? = some u → w.cell? ⟨g, j * d.sz + i, none⟩ = some u) := by
  have hj : j < xs.length := (List.getElem?_eq_some_iff.1 hx).1
  have hl : j < Fs.length := by rw [h.els.2.1]; exact hj
  have hO := h.els.2.2 j x _ hx (List.getElem?_eq_getElem hl)
  refine ⟨Fs[j], List.getElem?_eq_getElem hl, hO, fun i u hu => ?_⟩
  have hi : i < d.sz := by
    have := (List.getElem?_eq_some_iff.1 hu).1
    unfold seg at this
    rw [List.length_take] at this
    omega
  have hle : (j + 1) * d.sz ≤ xs.length * d.sz := Nat.mul_le_mul_right _ hj
  rw [Nat.succ_mul] at hle
  rw [h.cell _ (by omega)]
  unfold seg at hu
  rwa [List.getElem?_take_of_lt hi, List.getElem?_drop] at hu
theorem seg_set_same (inner : List Value) (j i : Nat) (u : Value) (hi : i < d.sz) : seg d (inner.set (j * d.sz + i) u) j = (seg d inner j).set i u := by
  unfold seg
  rw [List.drop_set, if_neg (by omega), List.take_set]
  congr 1
  omega
theorem seg_set_far (inner : List Value) (j k i : Nat) (u : Value) (hi : i < d.sz) (hjk : j ≠ k) : seg d (inner.set (k * d.sz + i) u) j = seg d inner j := by
  unfold seg
  apply List.ext_getElem?
  intro q
  rcases Nat.lt_or_ge q d.sz with hq | hq
  · rw [List.getElem?_take_of_lt hq, List.getElem?_drop, List.getElem?_take_of_lt hq, List.getElem?_drop, List.getElem?_set_ne]
    rcases Nat.lt_or_gt_of_ne hjk with hlt | hlt
    · have := Nat.mul_le_mul_right d.sz (show j + 1 ≤ k from hlt)
      rw [Nat.succ_mul] at this
      omega
    · have := Nat.mul_le_mul_right d.sz (show k + 1 ≤ j from hlt)
      rw [Nat.succ_mul] at this
      omega
  · rw [List.getElem?_eq_none (by rw [List.length_take]; omega), List.getElem?_eq_none (by rw [List.length_take]; omega)]
theorem gne (h : At d e w g n c xs Fs inner) : ∀ q ∈ Fs.flatten, q ≠ g := fun q hq he => (List.nodup_cons.1 h.nd).1 (he ▸ hq)
/-- One cell of one element written. -/
theorem put (h : At d e w g n c xs Fs inner) (j i : Nat) (hj : j < xs.length) (hi : i < d.sz) (u : Value) (x : α) (Fj : List Nat) (hF : Fs[j]? = some Fj) (hO : d.O w x ((seg d inner j).set i u) Fj) : At d e (w.setCell ⟨g, j * d.sz + i, none⟩ u) g n c (xs.set j x) Fs (inner.set (j * d.sz + i) u) := by
  have hn := h.num
  subst hn
  refine ⟨?_, ⟨?_, ?_, fun k p Fk hp hFk => ?_⟩, h.nd⟩
  · have := (World.ownsRow.stored h.row (j * d.sz + i) u).1
    rw [List.length_set]
    exact this
  · rw [List.length_set, List.length_set]
    exact h.els.1
  · rw [List.length_set]
    exact h.els.2.1
  · have hfar : ∀ q ∈ Fk, (w.setCell ⟨g, j * d.sz + i, none⟩ u).heap[q]? = w.heap[q]? := fun q hq => Below.heap_setCell w _ u q (h.gne q (List.mem_flatten.2 ⟨Fk, List.mem_of_getElem? hFk, hq⟩))
    show d.O _ p (seg d _ k) Fk
    by_cases hk : k = j
    · subst hk
      rw [List.getElem?_set_self hj] at hp
      cases hp
      rw [hF] at hFk
      cases hFk
      rw [seg_set_same _ _ _ _ hi]
      exact d.O_frame hfar hO
    · rw [List.getElem?_set_ne (Ne.symm hk)] at hp
      rw [seg_set_far _ _ _ _ _ hi hk]
      exact d.O_frame hfar (h.els.2.2 k p Fk hp hFk)
/-- What one element owns, turned. -/
theorem turn {w' : World} (h : At d e w g n c xs Fs inner) (j : Nat) (hj : j < xs.length) (x : α) (Fj G : List Nat) (hF : Fs[j]? = some Fj) (hG : ∀ q ∈ G, q ∈ Fj) (hB : But G w w') (hO : d.O w' x (seg d inner j) Fj) : At d e w' g n c (xs.set j x) Fs inner := by
  have hgn : g ∉ G := fun hm => h.gne g (List.mem_flatten.2 ⟨Fj, List.mem_of_getElem? hF, hG g hm⟩) rfl
  have hlt := h.ownF.lt
  have hg : w'.heap[g]? = w.heap[g]? := hB.block g (hlt g (by simp [Value.ownBlock])) hgn
  refine ⟨?_, ⟨?_, ?_, fun k p Fk hp hFk => ?_⟩, h.nd⟩
  · rw [List.length_set]
    obtain ⟨h1, h2⟩ := h.row
    refine ⟨h1, ?_⟩
    rcases h2 with h2 | ⟨g', cap, cur, hv, h3, hh, r⟩
    · exact .inl h2
    · cases hv
      exact .inr ⟨g, _, cur, rfl, h3, hg.trans hh, r⟩
  · rw [List.length_set]
    exact h.els.1
  · rw [List.length_set]
    exact h.els.2.1
  · by_cases hk : k = j
    · subst hk
      rw [List.getElem?_set_self hj] at hp
      cases hp
      rw [hF] at hFk
      cases hFk
      exact hO
    · rw [List.getElem?_set_ne (Ne.symm hk)] at hp
      refine d.O_frame (fun q hq => hB.block q ?_ (fun hm => ?_)) (h.els.2.2 k p Fk hp hFk)
      · exact hlt q (List.mem_append_right _ (List.mem_flatten.2 ⟨Fk, List.mem_of_getElem? hFk, hq⟩))
      · have h1 := (List.nodup_cons.1 h.nd).2
        have h2 := (List.pairwise_flatten.1 h1).2
        obtain ⟨a1, a2⟩ := List.getElem?_eq_some_iff.1 hFk
        obtain ⟨b1, b2⟩ := List.getElem?_eq_some_iff.1 hF
        have hqj := hG q hm
        rcases Nat.lt_or_gt_of_ne hk with hlt2 | hlt2
        · exact List.pairwise_iff_getElem.1 h2 k j a1 b1 hlt2 q (by rw [a2]; exact hq) q (by rw [b2]; exact hqj) rfl
        · exact List.pairwise_iff_getElem.1 h2 j k b1 a1 hlt2 q (by rw [b2]; exact hqj) q (by rw [a2]; exact hq) rfl
theorem below {w' : World} (h : At d e w g n c xs Fs inner) (hb : Below w.heap.size w w') : At d e w' g n c xs Fs inner := by
  have hlt := h.ownF.lt
  refine ⟨?_, h.els.frame (fun q hq => hb.block q (hlt q (List.mem_append_right _ hq))), h.nd⟩
  obtain ⟨h1, h2⟩ := h.row
  refine ⟨h1, ?_⟩
  rcases h2 with h2 | ⟨g', cap, cur, hv, h3, hh, r⟩
  · exact .inl h2
  · cases hv
    exact .inr ⟨g, _, cur, rfl, h3, (hb.block g (hlt g (by simp [Value.ownBlock]))).trans hh, r⟩
theorem but_put {w0 : World} (hB : But (g :: Fs.flatten) w0 w) (k : Nat) (u : Value) : But (g :: Fs.flatten) w0 (w.setCell ⟨g, k, none⟩ u) := hB.set (by simp) k u
theorem but_turn {w0 w' : World} (hB : But (g :: Fs.flatten) w0 w) {j : Nat} {Fj G : List Nat} (hF : Fs[j]? = some Fj) (hG : ∀ q ∈ G, q ∈ Fj) (hB2 : But G w w') : But (g :: Fs.flatten) w0 w' := hB.then hB2 (fun q hq => .inl (List.mem_cons_of_mem _ (List.mem_flatten.2 ⟨Fj, List.mem_of_getElem? hF, hG q hq⟩)))
end At
theorem Own.toAt {v : Value} {F : List Nat} (h : Own d e w v xs F) (hnd : F.Nodup) (hn : 0 < xs.length) : ∃ g c Fs inner, v = .slice (some ⟨g, 0, none⟩) xs.length c ∧ F = g :: Fs.flatten ∧ At d e w g xs.length c xs Fs inner := by
  obtain ⟨Fs, hF, rfl⟩ := h.fs
  obtain ⟨g, c, rfl⟩ := hF.form hn
  have e1 : (Value.slice (some (⟨g, 0, none⟩ : Addr)) xs.length c).ownBlock.toList ++ Fs.flatten = g :: Fs.flatten := rfl
  rw [e1] at hnd
  obtain ⟨inner, hA⟩ := hF.toAt hnd
  exact ⟨g, c, Fs, inner, rfl, e1, hA⟩
theorem At.own {inner : List Value} (h : At d e w g n c xs Fs inner) : Own d e w (.slice (some ⟨g, 0, none⟩) n c) xs (g :: Fs.flatten) := h.ownF.own
end Knd
end Go.Proofs.Yteoibjacgnmnpaa.Mem
