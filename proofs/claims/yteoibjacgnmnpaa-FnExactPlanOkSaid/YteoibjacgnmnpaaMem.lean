/- Memory told by values: what a value reads as (K), and what it owns (O, with the blocks that are its own: a footprint). -/
import Derived.Below
import Derived.Deep.Draws
import Derived.OwnWalk
import Derived.Laws.OwnMore
import Derived.Laws.MakeOwn
import Derived.WalkKit
import Derived.RowKit3
namespace Go.Proofs.Yteoibjacgnmnpaa.Mem
open Go Go.RowKit
set_option linter.unusedVariables false
set_option linter.unusedSimpArgs false

theorem ret_int {k : IntKind} {a b : Int} (h : a = b) : Ending.returned (.int k a) = .returned (.int k b) := by rw [h]
theorem ret_bool {a b : Bool} (h : a = b) : Ending.returned (.bool a) = .returned (.bool b) := by rw [h]
/-! ### Blocks -/
theorem blk_lt {w : World} {g : Nat} {o : Obj} (h : w.heap[g]? = some o) : g < w.heap.size := (Array.getElem?_eq_some_iff.1 h).1
theorem blk_cell {w : World} {g : Nat} {t : TypeId} {cs : Array Value} (h : w.heap[g]? = some (.cells cs t (0, 0))) (i : Nat) : w.cell? ⟨g, i, none⟩ = cs[i]? := cell_of_row w g i cs t (0, 0) h
theorem blk_frozen {w : World} {g : Nat} {t : TypeId} {cs : Array Value} (h : w.heap[g]? = some (.cells cs t (0, 0))) (i : Nat) : w.frozen? ⟨g, i, none⟩ = false := by simp [World.frozen?, h]
theorem blk_new (w : World) (o : Obj) : (w.alloc o).heap[w.heap.size]? = some o := heap_alloc_new w o
theorem blk_alloc {w : World} {g : Nat} {o : Obj} (h : w.heap[g]? = some o) (o' : Obj) : (w.alloc o').heap[g]? = some o := (Below.heap_alloc w o' g (blk_lt h)).trans h
theorem blk_below {w w1 : World} {g : Nat} {o : Obj} {B : Nat} (h : w.heap[g]? = some o) (hg : g < B) (hb : Below B w w1) : w1.heap[g]? = some o := (hb.block g hg).trans h
theorem blk_set {w : World} {g : Nat} {t : TypeId} {cs : Array Value} (h : w.heap[g]? = some (.cells cs t (0, 0))) (i : Nat) (u : Value) : (w.setCell ⟨g, i, none⟩ u).heap[g]? = some (.cells (cs.setIfInBounds i u) t (0, 0)) := by
  simp [World.setCell, Array.getElem?_modify, h]
theorem blk_far {w : World} {g : Nat} {o : Obj} (h : w.heap[g]? = some o) {p : Addr} (hp : g ≠ p.block) (u : Value) : (w.setCell p u).heap[g]? = some o := (Below.heap_setCell w p u g hp).trans h
theorem add_block (a : Addr) (i : Nat) : (a.add i).block = a.block := by unfold Addr.add; split <;> rfl
theorem cell_below {w w1 : World} {B : Nat} {p : Addr} {v : Value} (hb : Below B w w1) (hp : p.block < B) (h : w.cell? p = some v) : w1.cell? p = some v := (hb.cell hp).trans h

theorem bl_alloc {w W : World} (h : Below w.heap.size w W) (o : Obj) : Below w.heap.size w (W.alloc o) := h.alloc h.size o
theorem bl_drew {w W : World} {B : Nat} (h : Below B w W) : Below B w W.drew := h.drew
theorem bl_drewN {w W : World} {B : Nat} (h : Below B w W) (n : Nat) : Below B w (W.drewN n) := ⟨h.os, h.tape, h.output, h.size, h.block⟩
theorem bl_set {w W : World} (h : Below w.heap.size w W) {p : Addr} (hp : w.heap.size ≤ p.block) (u : Value) : Below w.heap.size w (W.setCell p u) := h.setCell hp u
theorem bl_step {w W W' : World} (h : Below w.heap.size w W) (k : Below W.heap.size W W') : Below w.heap.size w W' := h.trans (k.mono h.size)
theorem bcell {W w1 : World} (hb : Below W.heap.size W w1) : (∀ b o, b < W.heap.size → w1.cell? ⟨b, o, none⟩ = W.cell? ⟨b, o, none⟩) ∧ (∀ b o, b < W.heap.size → w1.frozen? ⟨b, o, none⟩ = W.frozen? ⟨b, o, none⟩) :=
  ⟨fun b o h => hb.cell (p := ⟨b, o, none⟩) h, fun b o h => hb.frozen (p := ⟨b, o, none⟩) h⟩
/-- Old blocks, but those of a list, are as they were; the streams too. -/
structure But (F : List Nat) (w w' : World) : Prop where
  os : w'.os = w.os
  tape : w'.tape = w.tape
  output : w'.output = w.output
  size : w.heap.size ≤ w'.heap.size
  block : ∀ k, k < w.heap.size → k ∉ F → w'.heap[k]? = w.heap[k]?
theorem But.refl (F : List Nat) (w : World) : But F w w := ⟨rfl, rfl, rfl, Nat.le_refl _, fun _ _ _ => rfl⟩
theorem But.trans {F : List Nat} {a b c : World} (h : But F a b) (k : But F b c) : But F a c :=
  ⟨k.os.trans h.os, k.tape.trans h.tape, k.output.trans h.output, Nat.le_trans h.size k.size, fun i hi hF => (k.block i (Nat.lt_of_lt_of_le hi h.size) hF).trans (h.block i hi hF)⟩
theorem But.mono {F F' : List Nat} {w w' : World} (h : But F w w') (hF : ∀ g, g ∈ F → g ∈ F') : But F' w w' := ⟨h.os, h.tape, h.output, h.size, fun k hk hn => h.block k hk (fun hm => hn (hF k hm))⟩
theorem But.of_below {F : List Nat} {w w' : World} (h : Below w.heap.size w w') : But F w w' := ⟨h.os, h.tape, h.output, h.size, fun k hk _ => h.block k hk⟩
theorem But.below {F : List Nat} {w0 w w' : World} (h : But F w w') (hb : Below w0.heap.size w0 w) (hF : ∀ g ∈ F, w0.heap.size ≤ g) : Below w0.heap.size w0 w' :=
  hb.trans ⟨h.os, h.tape, h.output, h.size, fun k hk => h.block k (Nat.lt_of_lt_of_le hk hb.size) (fun hm => by have := hF k hm; omega)⟩
theorem But.set {F : List Nat} {w w' : World} (h : But F w w') {g : Nat} (hg : g ∈ F) (j : Nat) (v : Value) : But F w (w'.setCell ⟨g, j, none⟩ v) :=
  ⟨h.os, h.tape, h.output, by simpa [World.setCell] using h.size, fun k hk hn => (Below.heap_setCell w' ⟨g, j, none⟩ v k (fun e => hn (by rw [e]; exact hg))).trans (h.block k hk hn)⟩
theorem But.set_new {F : List Nat} {w w' : World} (h : But F w w') {g : Nat} (hg : w.heap.size ≤ g) (j : Nat) (v : Value) : But F w (w'.setCell ⟨g, j, none⟩ v) :=
  ⟨h.os, h.tape, h.output, by simpa [World.setCell] using h.size, fun k hk hn => (Below.heap_setCell w' ⟨g, j, none⟩ v k (fun e => by have e' : k = g := e; omega)).trans (h.block k hk hn)⟩
theorem But.alloc {F : List Nat} {w w' : World} (h : But F w w') (o : Obj) : But F w (w'.alloc o) := h.trans (But.of_below ((Below.refl _ _).alloc (Nat.le_refl _) _))

/-! ### Kinds -/
structure Knd (α : Type) where
  sz : Nat
  K : World → α → List Value → Prop
  O : World → α → List Value → List Nat → Prop
  K_len : ∀ {w x cs}, K w x cs → cs.length = sz
  K_one : ∀ {w x cs}, K w x cs → ∀ u ∈ cs, u.oneCell' = true
  K_below : ∀ {w w1 : World} {x cs}, Below w.heap.size w w1 → K w x cs → K w1 x cs
  K_of_O : ∀ {w x cs F}, O w x cs F → K w x cs
  O_lt : ∀ {w : World} {x cs F}, O w x cs F → ∀ g ∈ F, g < w.heap.size
  O_frame : ∀ {w w1 : World} {x cs F}, (∀ g ∈ F, w1.heap[g]? = w.heap[g]?) → O w x cs F → O w1 x cs F

namespace Knd
/-- A row that is read. -/
def Row {α : Type} (d : Knd α) (w : World) (A : Option Addr) (n : Nat) (xs : List α) : Prop :=
  xs.length = n ∧ n ≤ 9223372036854775807 ∧ (0 < n → ∃ ad, A = some ad ∧ ∀ j p, xs[j]? = some p → ∃ c, d.K w p c ∧ ∀ i u, c[i]? = some u → w.cell? (ad.add (j * d.sz + i)) = some u)
/-- Elements side by side, each with its footprint. -/
def Els {α : Type} (d : Knd α) (w : World) (xs : List α) (cs : List Value) (Fs : List (List Nat)) : Prop :=
  cs.length = xs.length * d.sz ∧ Fs.length = xs.length ∧ ∀ j p Fj, xs[j]? = some p → Fs[j]? = some Fj → d.O w p ((cs.drop (j * d.sz)).take d.sz) Fj
/-- A row of the call's own. -/
def Own {α : Type} (d : Knd α) (e : Nat) (w : World) (v : Value) (xs : List α) (F : List Nat) : Prop :=
  ∃ inner Fs, w.ownsRow 0 e d.sz v xs.length inner ∧ Els d w xs inner Fs ∧ F = v.ownBlock.toList ++ Fs.flatten
section
variable {α β : Type} {d : Knd α} {e : Nat} {w w1 : World} {v : Value} {xs : List α} {F : List Nat} {Fs : List (List Nat)} {cs : List Value}

theorem Row.below {A : Option Addr} {n : Nat} (h : d.Row w A n xs) (hb : Below w.heap.size w w1) : d.Row w1 A n xs :=
  ⟨h.1, h.2.1, fun hn => by
    obtain ⟨ad, e, hc⟩ := h.2.2 hn
    refine ⟨ad, e, fun j p hj => ?_⟩
    obtain ⟨c, hk, hcell⟩ := hc j p hj
    refine ⟨c, d.K_below hb hk, fun i u hu => ?_⟩
    have := hcell i u hu
    exact cell_below hb (World.block_lt_of_cell? w _ this) this⟩
theorem Row.get {A : Option Addr} {n : Nat} (h : d.Row w A n xs) (i : Nat) (x : α) (hx : xs[i]? = some x) :
    ∃ ad c, A = some ad ∧ d.K w x c ∧ ∀ j u, c[j]? = some u → w.cell? (ad.add (i * d.sz + j)) = some u := by
  have hl : i < xs.length := (List.getElem?_eq_some_iff.1 hx).1
  have h1 := h.1
  obtain ⟨ad, e, hc⟩ := h.2.2 (by omega)
  obtain ⟨c, hk, hcell⟩ := hc i x hx
  exact ⟨ad, c, e, hk, hcell⟩
theorem Els.K {A : Nat} (h : Els d w xs cs Fs) (j : Nat) (p : α) (hp : xs[j]? = some p) : d.K w p ((cs.drop (j * d.sz)).take d.sz) := by
  have hl : j < Fs.length := by rw [h.2.1]; exact (List.getElem?_eq_some_iff.1 hp).1
  exact d.K_of_O (h.2.2 j p _ hp (List.getElem?_eq_getElem hl))
theorem Els.frame (h : Els d w xs cs Fs) (hm : ∀ g ∈ Fs.flatten, w1.heap[g]? = w.heap[g]?) : Els d w1 xs cs Fs :=
  ⟨h.1, h.2.1, fun j p Fj hp hF => d.O_frame (fun g hg => hm g (List.mem_flatten.2 ⟨Fj, List.mem_of_getElem? hF, hg⟩)) (h.2.2 j p Fj hp hF)⟩
theorem Own.row (h : Own d e w v xs F) : ∃ A c, v = .slice A xs.length c ∧ xs.length ≤ c ∧ d.Row w A xs.length xs := by
  obtain ⟨inner, Fs, ho, hr, rfl⟩ := h
  have hlen := ho.1
  rcases ho.2 with ⟨rfl, h0⟩ | ⟨g, cap, cur, rfl, _, hh, hnc, hcm, hcs, ht⟩
  · rw [h0]
    exact ⟨none, 0, rfl, Nat.le_refl _, h0, by omega, fun hn => absurd hn (by omega)⟩
  · refine ⟨_, _, rfl, hnc, rfl, by unfold maxLen at hcm; omega, fun hn => ⟨_, rfl, fun j p hj => ?_⟩⟩
    refine ⟨_, Els.K (A := 0) hr j p hj, fun i u hu => ?_⟩
    have hi : i < d.sz := by
      have h3 := (List.getElem?_eq_some_iff.1 hu).1
      rw [List.length_take] at h3
      omega
    have hjl : j < xs.length := (List.getElem?_eq_some_iff.1 hj).1
    rw [List.getElem?_take_of_lt hi, List.getElem?_drop] at hu
    exact (World.ownsRow.cells (g := g) ho rfl) (j * d.sz + i) u hu
theorem Own.frame (h : Own d e w v xs F) (hm : ∀ g ∈ F, w1.heap[g]? = w.heap[g]?) : Own d e w1 v xs F := by
  obtain ⟨inner, Fs, ho, hr, rfl⟩ := h
  refine ⟨inner, Fs, ?_, hr.frame (fun g hg => hm g (List.mem_append_right _ hg)), rfl⟩
  obtain ⟨h1, h2⟩ := ho
  refine ⟨h1, ?_⟩
  rcases h2 with h2 | ⟨g, cap, cur, rfl, hg, hh, r⟩
  · exact .inl h2
  · exact .inr ⟨g, cap, cur, rfl, hg, (hm g (by simp [Value.ownBlock])).trans hh, r⟩
theorem Own.lt (h : Own d e w v xs F) : ∀ g ∈ F, g < w.heap.size := by
  obtain ⟨inner, Fs, ho, hr, rfl⟩ := h
  intro g hg
  rcases List.mem_append.1 hg with hg | hg
  · exact (World.ownsRow.lt ho g (by simpa using hg)).2
  · obtain ⟨Fj, hFj, hgj⟩ := List.mem_flatten.1 hg
    obtain ⟨j, hj⟩ := List.mem_iff_getElem?.1 hFj
    have hl : j < xs.length := by rw [← hr.2.1]; exact (List.getElem?_eq_some_iff.1 hj).1
    exact d.O_lt (hr.2.2 j _ Fj (List.getElem?_eq_getElem hl) hj) g hgj
theorem Own.nil (d : Knd α) (e : Nat) (w : World) : Own d e w (.slice none 0 0) [] [] :=
  ⟨[], [], ⟨by simp, .inl ⟨rfl, rfl⟩⟩, ⟨by simp, rfl, fun j p F h => by simp at h⟩, rfl⟩
end

def scalar {α : Type} (enc : α → Value) (h1 : ∀ x, (enc x).oneCell' = true) : Knd α where
  sz := 1
  K := fun _ x cs => cs = [enc x]
  O := fun _ x cs F => cs = [enc x] ∧ F = []
  K_len := fun h => by rw [h]; rfl
  K_one := fun h u hu => by
    rw [h] at hu
    rw [List.mem_singleton.1 hu]
    exact h1 _
  K_below := fun _ h => h
  K_of_O := fun h => h.1
  O_lt := fun h g hg => by rw [h.2] at hg; simp at hg
  O_frame := fun _ h => h
def int (k : IntKind) : Knd Int := scalar (Value.int k) (fun _ => rfl)
def bool : Knd Bool := scalar Value.bool (fun _ => rfl)
def str : Knd ByteArray := scalar Value.string (fun _ => rfl)
def slice {α : Type} (e : Nat) (d : Knd α) : Knd (List α) where
  sz := 1
  K := fun w xs cs => ∃ A c, cs = [.slice A xs.length c] ∧ xs.length ≤ c ∧ d.Row w A xs.length xs
  O := fun w xs cs F => ∃ v, cs = [v] ∧ d.Own e w v xs F
  K_len := by
    rintro w x cs ⟨A, c, rfl, _⟩
    rfl
  K_one := by
    rintro w x cs ⟨A, c, rfl, _⟩ u hu
    rw [List.mem_singleton.1 hu]
    rfl
  K_below := by
    rintro w w1 x cs hb ⟨A, c, rfl, hl, hr⟩
    exact ⟨A, c, rfl, hl, hr.below hb⟩
  K_of_O := by
    rintro w x cs F ⟨v, rfl, h⟩
    obtain ⟨A, c, rfl, hl, hr⟩ := h.row
    exact ⟨A, c, rfl, hl, hr⟩
  O_lt := by
    rintro w x cs F ⟨v, rfl, h⟩
    exact h.lt
  O_frame := by
    rintro w w1 x cs F hm ⟨v, rfl, h⟩
    exact ⟨v, rfl, h.frame hm⟩
def pair {α β : Type} (a : Knd α) (b : Knd β) : Knd (α × β) where
  sz := a.sz + b.sz
  K := fun w x cs => ∃ c0 c1, cs = c0 ++ c1 ∧ a.K w x.1 c0 ∧ b.K w x.2 c1
  O := fun w x cs F => ∃ c0 c1 F0 F1, cs = c0 ++ c1 ∧ F = F0 ++ F1 ∧ a.O w x.1 c0 F0 ∧ b.O w x.2 c1 F1
  K_len := by
    rintro w x cs ⟨c0, c1, rfl, h0, h1⟩
    rw [List.length_append, a.K_len h0, b.K_len h1]
  K_one := by
    rintro w x cs ⟨c0, c1, rfl, h0, h1⟩ u hu
    rcases List.mem_append.1 hu with hu | hu
    · exact a.K_one h0 u hu
    · exact b.K_one h1 u hu
  K_below := by
    rintro w w1 x cs hb ⟨c0, c1, rfl, h0, h1⟩
    exact ⟨c0, c1, rfl, a.K_below hb h0, b.K_below hb h1⟩
  K_of_O := by
    rintro w x cs F ⟨c0, c1, F0, F1, rfl, rfl, h0, h1⟩
    exact ⟨c0, c1, rfl, a.K_of_O h0, b.K_of_O h1⟩
  O_lt := by
    rintro w x cs F ⟨c0, c1, F0, F1, rfl, rfl, h0, h1⟩ g hg
    rcases List.mem_append.1 hg with hg | hg
    · exact a.O_lt h0 g hg
    · exact b.O_lt h1 g hg
  O_frame := by
    rintro w w1 x cs F hm ⟨c0, c1, F0, F1, rfl, rfl, h0, h1⟩
    exact ⟨c0, c1, F0, F1, rfl, rfl, a.O_frame (fun g hg => hm g (List.mem_append_left _ hg)) h0, b.O_frame (fun g hg => hm g (List.mem_append_right _ hg)) h1⟩
def iso {α β : Type} (d : Knd α) (f : β → α) : Knd β where
  sz := d.sz
  K := fun w x cs => d.K w (f x) cs
  O := fun w x cs F => d.O w (f x) cs F
  K_len := d.K_len
  K_one := d.K_one
  K_below := d.K_below
  K_of_O := d.K_of_O
  O_lt := d.O_lt
  O_frame := d.O_frame
end Knd
end Go.Proofs.Yteoibjacgnmnpaa.Mem
