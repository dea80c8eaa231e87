/- What a walk keeps: old memory as it was, and resources of its own that lie apart from each other. -/
import Derived.Test.YteoibjacgnmnpaaApp
namespace Go.Proofs.Yteoibjacgnmnpaa.Mem
open Go Go.RowKit
set_option linter.unusedVariables false
set_option linter.unusedSimpArgs false
/-- A resource: a fact about some blocks alone. -/
structure Res where
  F : List Nat
  P : World → Prop
  lt : ∀ {W : World}, P W → ∀ g ∈ F, g < W.heap.size
  loc : ∀ {W W' : World}, (∀ g ∈ F, W'.heap[g]? = W.heap[g]?) → P W → P W'
namespace Res
def box (g : Nat) (o : Obj) : Res := ⟨[g], fun W => W.heap[g]? = some o, fun h q hq => by rw [List.mem_singleton.1 hq]; exact blk_lt h, fun h k => (h g (by simp)).trans k⟩
def own {α : Type} (d : Knd α) (e : Nat) (v : Value) (xs : List α) (F : List Nat) : Res := ⟨F, fun W => d.Own e W v xs F, fun h => h.lt, fun h k => k.frame h⟩
def agg {α : Type} (d : Knd α) (x : α) (cs : List Value) (F : List Nat) : Res := ⟨F, fun W => d.O W x cs F, fun h => d.O_lt h, fun h k => d.O_frame h k⟩
end Res
structure St (w : World) (L : List Res) (W : World) : Prop where
  bel : Below w.heap.size w W
  at_ : ∀ r ∈ L, r.P W
  old : ∀ r ∈ L, ∀ g ∈ r.F, w.heap.size ≤ g
  dis : (L.map Res.F).flatten.Nodup
theorem erase_perm {α : Type} : ∀ (L : List α) (i : Nat) (x : α), L[i]? = some x → (x :: L.eraseIdx i).Perm L
  | [], i, x, h => by simp at h
  | y :: L, 0, x, h => by
    have e : y = x := by simpa using h
    subst e
    exact List.Perm.refl _
  | y :: L, i + 1, x, h => (List.Perm.swap y x _).trans ((erase_perm L i x (by simpa using h)).cons y)
theorem set_perm {α : Type} : ∀ (L : List α) (i : Nat) (x : α), i < L.length → (x :: L.eraseIdx i).Perm (L.set i x)
  | [], i, x, h => by simp at h
  | y :: L, 0, x, h => List.Perm.refl _
  | y :: L, i + 1, x, h => (List.Perm.swap y x _).trans ((set_perm L i x (by simpa using h)).cons y)
namespace St
variable {w W W' : World} {L : List Res} {r r' : Res}
theorem start (w : World) : St w [] w := ⟨Below.refl _ _, by simp, by simp, by simp⟩
theorem get (h : St w L W) (i : Nat) (hi : L[i]? = some r) : r.P W := h.at_ r (List.mem_of_getElem? hi)
theorem lts (h : St w L W) (i : Nat) (hi : L[i]? = some r) : ∀ g ∈ r.F, g < W.heap.size := r.lt (h.get i hi)
theorem olds (h : St w L W) (i : Nat) (hi : L[i]? = some r) : ∀ g ∈ r.F, w.heap.size ≤ g := h.old r (List.mem_of_getElem? hi)
theorem nodup (h : St w L W) (i : Nat) (hi : L[i]? = some r) : r.F.Nodup := by
  have h1 := List.pairwise_flatten.1 h.dis
  exact h1.1 _ (List.mem_map.2 ⟨r, List.mem_of_getElem? hi, rfl⟩)
theorem apart (h : St w L W) (i j : Nat) (hij : i ≠ j) (hi : L[i]? = some r) (hj : L[j]? = some r') : ∀ g ∈ r.F, g ∉ r'.F := by
  have h1 := List.pairwise_flatten.1 h.dis
  have h2 := List.pairwise_iff_getElem.1 h1.2
  obtain ⟨hi1, hi2⟩ := List.getElem?_eq_some_iff.1 hi
  obtain ⟨hj1, hj2⟩ := List.getElem?_eq_some_iff.1 hj
  intro g hg hg'
  rcases Nat.lt_or_gt_of_ne hij with hlt | hlt
  · have := h2 i j (by simpa using hi1) (by simpa using hj1) hlt
    simp only [List.getElem_map, hi2, hj2] at this
    exact this g hg g hg' rfl
  · have := h2 j i (by simpa using hj1) (by simpa using hi1) hlt
    simp only [List.getElem_map, hi2, hj2] at this
    exact this g hg' g hg rfl
theorem step (h : St w L W) (hb : Below W.heap.size W W') : St w L W' := ⟨bl_step h.bel hb, fun r hr => r.loc (fun g hg => hb.block g (r.lt (h.at_ r hr) g hg)) (h.at_ r hr), h.old, h.dis⟩
theorem new (h : St w L W) (hb : Below W.heap.size W W') (hr : r.P W') (hnd : r.F.Nodup) (hn : ∀ g ∈ r.F, W.heap.size ≤ g) : St w (r :: L) W' := ⟨bl_step h.bel hb, fun q hq => by
    rcases List.mem_cons.1 hq with rfl | hq
    · exact hr
    · exact (h.step hb).at_ q hq, fun q hq g hg => by
    rcases List.mem_cons.1 hq with rfl | hq
    · exact Nat.le_trans h.bel.size (hn g hg)
    · exact h.old q hq g hg, by
    rw [List.map_cons, List.flatten_cons, List.nodup_append]
    refine ⟨hnd, h.dis, fun a ha b hb2 e => ?_⟩
    subst e
    obtain ⟨F, hF, haF⟩ := List.mem_flatten.1 hb2
    obtain ⟨q, hq, rfl⟩ := List.mem_map.1 hF
    have := q.lt (h.at_ q hq) a haF
    have := hn a ha
    omega⟩
theorem made (h : St w L W) (o : Obj) : St w (Res.box W.heap.size o :: L) (W.alloc o) := h.new ((Below.refl _ _).alloc (Nat.le_refl _) o) (blk_new W o) (by simp [Res.box]) (by simp [Res.box])
theorem madeAt (h : St w L W) (o : Obj) (g : Nat) (hg : W.heap.size = g) : St w (Res.box g o :: L) (W.alloc o) := hg ▸ h.made o
theorem drew (h : St w L W) : St w L W.drew := h.step ((Below.refl _ _).drew)
theorem perm {L' : List Res} (h : St w L W) (hp : L.Perm L') : St w L' W := ⟨h.bel, fun r hr => h.at_ r (hp.mem_iff.2 hr), fun r hr => h.old r (hp.mem_iff.2 hr), (hp.map Res.F).flatten.nodup_iff.1 h.dis⟩
theorem drop (h : St w (r :: L) W) : St w L W := ⟨h.bel, fun r hr => h.at_ r (List.mem_cons_of_mem _ hr), fun r hr => h.old r (List.mem_cons_of_mem _ hr), by
  have h1 := h.dis
  rw [List.map_cons, List.flatten_cons, List.nodup_append] at h1
  exact h1.2.1⟩
theorem front (h : St w L W) (i : Nat) (hi : L[i]? = some r) : St w (r :: L.eraseIdx i) W := h.perm (erase_perm L i r hi).symm
/-- The first one turned, in its own blocks and in new ones. -/
theorem upd0 (h : St w (r :: L) W) (hB : But r.F W W') (hr : r'.P W') (hnd : r'.F.Nodup) (hF : ∀ g ∈ r'.F, g ∈ r.F ∨ W.heap.size ≤ g) : St w (r' :: L) W' := by
  have h1 := h.dis
  rw [List.map_cons, List.flatten_cons, List.nodup_append] at h1
  have hfar : ∀ q ∈ L, ∀ g ∈ q.F, g ∉ r.F := fun q hq g hg hm => h1.2.2 g hm g (List.mem_flatten.2 ⟨_, List.mem_map.2 ⟨q, hq, rfl⟩, hg⟩) rfl
  have hlt : ∀ q ∈ L, ∀ g ∈ q.F, g < W.heap.size := fun q hq => q.lt (h.at_ q (List.mem_cons_of_mem _ hq))
  refine ⟨hB.below h.bel (h.old r (by simp)), fun q hq => ?_, fun q hq g hg => ?_, ?_⟩
  · rcases List.mem_cons.1 hq with rfl | hq
    · exact hr
    · exact q.loc (fun g hg => hB.block g (hlt q hq g hg) (hfar q hq g hg)) (h.at_ q (List.mem_cons_of_mem _ hq))
  · rcases List.mem_cons.1 hq with rfl | hq
    · rcases hF g hg with h2 | h2
      · exact h.old r (by simp) g h2
      · exact Nat.le_trans h.bel.size h2
    · exact h.old q (List.mem_cons_of_mem _ hq) g hg
  · rw [List.map_cons, List.flatten_cons, List.nodup_append]
    refine ⟨hnd, h1.2.1, fun a ha b hb2 e => ?_⟩
    subst e
    obtain ⟨F, hFm, haF⟩ := List.mem_flatten.1 hb2
    obtain ⟨q, hq, rfl⟩ := List.mem_map.1 hFm
    rcases hF a ha with h2 | h2
    · exact hfar q hq a haF h2
    · have := hlt q hq a haF
      omega
theorem upd (h : St w L W) (i : Nat) (hi : L[i]? = some r) (hB : But r.F W W') (hr : r'.P W') (hnd : r'.F.Nodup) (hF : ∀ g ∈ r'.F, g ∈ r.F ∨ W.heap.size ≤ g) : St w (L.set i r') W' :=
  ((h.front i hi).upd0 hB hr hnd hF).perm (set_perm L i r' (List.getElem?_eq_some_iff.1 hi).1)
/-- A fact of the same blocks put for another one. -/
theorem as (h : St w L W) (i : Nat) (hi : L[i]? = some r) (hr : r'.P W) (hF : r'.F = r.F) : St w (L.set i r') W :=
  h.upd i hi (But.refl _ _) hr (hF ▸ h.nodup i hi) (fun g hg => .inl (hF ▸ hg))
theorem set (h : St w L W) (i : Nat) {g : Nat} {cs : Array Value} {t : TypeId} (hi : L[i]? = some (Res.box g (.cells cs t (0, 0)))) (j : Nat) (v : Value) : St w (L.set i (Res.box g (.cells (cs.setIfInBounds j v) t (0, 0)))) (W.setCell ⟨g, j, none⟩ v) :=
  h.upd i hi ((But.refl _ _).set (by simp [Res.box]) j v) (blk_set (h.get i hi) j v) (by simp [Res.box]) (fun q hq => .inl hq)
theorem cell (h : St w L W) (i : Nat) {g : Nat} {cs : Array Value} {t : TypeId} (hi : L[i]? = some (Res.box g (.cells cs t (0, 0)))) : ∀ j, W.cell? ⟨g, j, none⟩ = cs[j]? := blk_cell (h.get i hi)
theorem free (h : St w L W) (i : Nat) {g : Nat} {cs : Array Value} {t : TypeId} (hi : L[i]? = some (Res.box g (.cells cs t (0, 0)))) : ∀ j, W.frozen? ⟨g, j, none⟩ = false := blk_frozen (h.get i hi)
theorem blt (h : St w L W) (i : Nat) {g : Nat} {o : Obj} (hi : L[i]? = some (Res.box g o)) : g < W.heap.size := blk_lt (h.get i hi)
theorem row {α : Type} {d : Knd α} {e : Nat} {v : Value} {xs : List α} {F : List Nat} (h : St w L W) (i : Nat) (hi : L[i]? = some (Res.own d e v xs F)) : ∃ A c, v = .slice A xs.length c ∧ xs.length ≤ c ∧ d.Row W A xs.length xs := Knd.Own.row (h.get i hi)
end St
end Go.Proofs.Yteoibjacgnmnpaa.Mem
