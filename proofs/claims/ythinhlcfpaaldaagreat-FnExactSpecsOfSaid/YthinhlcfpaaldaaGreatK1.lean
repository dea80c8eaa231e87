/- A bundle: Mem Open Own Inv Dat Sz SzM To Eq Range Uses InsI InsOk Text Idx ModOk. -/
import Derived.Below
import Derived.Deep.Draws
import Derived.OwnWalk
import Derived.Laws.OwnMore
import Derived.Laws.MakeOwn
import Derived.WalkKit
import Derived.RowKit3
import Derived.Deep.Slices
import Derived.Deep.Fields
import Derived.ChangeSame
import Derived.WideShapes
import Derived.Tactics
import Derived.Test.YthinhlcfpaaldaaGreatWLast
import Derived.Test.YthinhlcfpaaldaaGreatProg
import Derived.Deep.LoopGhost
import Derived.Lib.Hide
import Derived.OpenShut
import Derived.Deep.RegionHeld3
import Derived.Deep.QuietTactic
import Derived.BigQuiet
import Derived.WalkLawsBesides
import Derived.WalkSpells
/- Memory told by values: what a value reads as (K), and what it owns (O, with the blocks that are its own: a footprint). -/
namespace Go.Proofs.YthinhlcfpaaldaaGreat.Mem
open Go Go.RowKit
set_option linter.unusedVariables false
set_option linter.unusedSimpArgs false

theorem ret_int {k : IntKind} {a b : Int} (h : a = b) : Ending.returned (.int k a) = .returned (.int k b) := by rw [h]
theorem ret_bool {a b : Bool} (h : a = b) : Ending.returned (.bool a) = .returned (.bool b) := by rw [h]
/-! ### Blocks -/
theorem blk_lt {w : World} {g : Nat} {o : Obj} (h : w.heap[g]? = some o) : g < w.heap.size := (Array.getElem?_eq_some_iff.1 h).1
theorem blk_cell {w : World} {g : Nat} {t : TypeId} {cs : Array Value} (h : w.heap[g]? = some (.cells cs t (0, 0))) (i : Nat) : w.cell? ⟨g, i, none⟩ = cs[i]? := cell_of_row w g i cs t (0, 0) h
theorem blk_frozen {w : World} {g : Nat} {t : TypeId} {cs : Array Value} (h : w.heap[g]? = some (.cells cs t (0, 0))) (i : Nat) : w.frozen? ⟨g, i, none⟩ = false := by simp [World.frozen?, h]
theorem blk_new (w : World) (o : Obj) : (w.alloc o).heap[w.heap.size]? = some o := heap_alloc_new w o
theorem blk_alloc {w : World} {g : Nat} {o : Obj} (h : w.heap[g]? = some o) (o' : Obj) : (w.alloc o').heap[g]? = some o := (Below.heap_alloc w o' g (blk_lt h)).trans h
theorem blk_below {w w1 : World} {g : Nat} {o : Obj} {B : Nat} (h : w.heap[g]? = some o) (hg : g < B) (hb : Below B w w1) : w1.heap[g]? = some o := (hb.block g hg).trans h
theorem blk_set {w : World} {g : Nat} {t : TypeId} {cs : Array Value} (h : w.heap[g]? = some (.cells cs t (0, 0))) (i : Nat) (u : Value) : (w.setCell ⟨g, i, none⟩ u).heap[g]? = some (.cells (cs.setIfInBounds i u) t (0, 0)) := by
  simp [World.setCell, Array.getElem?_modify, h]
theorem cell_below {w w1 : World} {B : Nat} {p : Addr} {v : Value} (hb : Below B w w1) (hp : p.block < B) (h : w.cell? p = some v) : w1.cell? p = some v := (hb.cell hp).trans h

theorem bl_alloc {w W : World} (h : Below w.heap.size w W) (o : Obj) : Below w.heap.size w (W.alloc o) := h.alloc h.size o
theorem bl_drew {w W : World} {B : Nat} (h : Below B w W) : Below B w W.drew := h.drew
theorem bl_drewN {w W : World} {B : Nat} (h : Below B w W) (n : Nat) : Below B w (W.drewN n) := ⟨h.os, h.tape, h.output, h.size, h.block⟩
theorem bl_set {w W : World} (h : Below w.heap.size w W) {p : Addr} (hp : w.heap.size ≤ p.block) (u : Value) : Below w.heap.size w (W.setCell p u) := h.setCell hp u
theorem bl_step {w W W' : World} (h : Below w.heap.size w W) (k : Below W.heap.size W W') : Below w.heap.size w W' := h.trans (k.mono h.size)
theorem bl9 {n : Nat} {w W : World} (h : Below n w W := by repeat (first | with_reducible exact Below.refl _ _ | with_reducible assumption | (with_reducible refine bl_set ?_ (by dsimp only; omega) _) | with_reducible refine bl_alloc ?_ _ | with_reducible refine bl_drewN ?_ _ | with_reducible refine bl_drew ?_ | with_reducible refine bl_step ?_ (by with_reducible assumption) | exact Below.refl _ _ | assumption | (refine bl_set ?_ (by dsimp only; omega) _) | refine bl_alloc ?_ _ | refine bl_drewN ?_ _ | refine bl_drew ?_ | refine bl_step ?_ (by assumption))) : Below n w W := h
theorem bcell {W w1 : World} (hb : Below W.heap.size W w1) : (∀ b o, b < W.heap.size → w1.cell? ⟨b, o, none⟩ = W.cell? ⟨b, o, none⟩) ∧ (∀ b o, b < W.heap.size → w1.frozen? ⟨b, o, none⟩ = W.frozen? ⟨b, o, none⟩) :=
  ⟨fun b o h => hb.cell (p := ⟨b, o, none⟩) h, fun b o h => hb.frozen (p := ⟨b, o, none⟩) h⟩
/-- Old blocks, but those of a list, are as they were; the streams too. -/
structure But (F : List Nat) (w w' : World) : Prop where
  os : w'.os = w.os
  tape : w'.tape = w.tape
  output : w'.output = w.output
  size : w.heap.size ≤ w'.heap.size
  block : ∀ k, k < w.heap.size → k ∉ F → w'.heap[k]? = w.heap[k]?
theorem But.refl (F : List Nat) (w : World) : But F w w := ⟨rfl, rfl, rfl, Nat.le_refl _, fun _ _ _ => rfl⟩
theorem But.trans {F : List Nat} {a b c : World} (h : But F a b) (k : But F b c) : But F a c :=
  ⟨k.os.trans h.os, k.tape.trans h.tape, k.output.trans h.output, Nat.le_trans h.size k.size, fun i hi hF => (k.block i (Nat.lt_of_lt_of_le hi h.size) hF).trans (h.block i hi hF)⟩
theorem But.mono {F F' : List Nat} {w w' : World} (h : But F w w') (hF : ∀ g, g ∈ F → g ∈ F') : But F' w w' := ⟨h.os, h.tape, h.output, h.size, fun k hk hn => h.block k hk (fun hm => hn (hF k hm))⟩
theorem But.of_below {F : List Nat} {w w' : World} (h : Below w.heap.size w w') : But F w w' := ⟨h.os, h.tape, h.output, h.size, fun k hk _ => h.block k hk⟩
theorem But.below {F : List Nat} {w0 w w' : World} (h : But F w w') (hb : Below w0.heap.size w0 w) (hF : ∀ g ∈ F, w0.heap.size ≤ g) : Below w0.heap.size w0 w' :=
  hb.trans ⟨h.os, h.tape, h.output, h.size, fun k hk => h.block k (Nat.lt_of_lt_of_le hk hb.size) (fun hm => by have := hF k hm; omega)⟩
theorem But.set {F : List Nat} {w w' : World} (h : But F w w') {g : Nat} (hg : g ∈ F) (j : Nat) (v : Value) : But F w (w'.setCell ⟨g, j, none⟩ v) :=
  ⟨h.os, h.tape, h.output, by simpa [World.setCell] using h.size, fun k hk hn => (Below.heap_setCell w' ⟨g, j, none⟩ v k (fun e => hn (by rw [e]; exact hg))).trans (h.block k hk hn)⟩
theorem But.set_new {F : List Nat} {w w' : World} (h : But F w w') {g : Nat} (hg : w.heap.size ≤ g) (j : Nat) (v : Value) : But F w (w'.setCell ⟨g, j, none⟩ v) :=
  ⟨h.os, h.tape, h.output, by simpa [World.setCell] using h.size, fun k hk hn => (Below.heap_setCell w' ⟨g, j, none⟩ v k (fun e => by have e' : k = g := e; omega)).trans (h.block k hk hn)⟩
theorem But.alloc {F : List Nat} {w w' : World} (h : But F w w') (o : Obj) : But F w (w'.alloc o) := h.trans (But.of_below ((Below.refl _ _).alloc (Nat.le_refl _) _))

/-! ### Kinds -/
structure Knd (α : Type) where
  sz : Nat
  K : World → α → List Value → Prop
  O : World → α → List Value → List Nat → Prop
  K_len : ∀ {w x cs}, K w x cs → cs.length = sz
  K_one : ∀ {w x cs}, K w x cs → ∀ u ∈ cs, u.oneCell' = true
  K_below : ∀ {w w1 : World} {x cs}, Below w.heap.size w w1 → K w x cs → K w1 x cs
  K_of_O : ∀ {w x cs F}, O w x cs F → K w x cs
  O_lt : ∀ {w : World} {x cs F}, O w x cs F → ∀ g ∈ F, g < w.heap.size
  O_frame : ∀ {w w1 : World} {x cs F}, (∀ g ∈ F, w1.heap[g]? = w.heap[g]?) → O w x cs F → O w1 x cs F

namespace Knd
/-- A row that is read. -/
def Row {α : Type} (d : Knd α) (w : World) (A : Option Addr) (n : Nat) (xs : List α) : Prop :=
  xs.length = n ∧ n ≤ 9223372036854775807 ∧ (0 < n → ∃ ad, A = some ad ∧ ∀ j p, xs[j]? = some p → ∃ c, d.K w p c ∧ ∀ i u, c[i]? = some u → w.cell? (ad.add (j * d.sz + i)) = some u)
/-- Elements side by side, each with its footprint. -/
def Els {α : Type} (d : Knd α) (w : World) (xs : List α) (cs : List Value) (Fs : List (List Nat)) : Prop :=
  cs.length = xs.length * d.sz ∧ Fs.length = xs.length ∧ ∀ j p Fj, xs[j]? = some p → Fs[j]? = some Fj → d.O w p ((cs.drop (j * d.sz)).take d.sz) Fj
/-- A row of the call's own. -/
def Own {α : Type} (d : Knd α) (e : Nat) (w : World) (v : Value) (xs : List α) (F : List Nat) : Prop :=
  ∃ inner Fs, w.ownsRow 0 e d.sz v xs.length inner ∧ Els d w xs inner Fs ∧ F = v.ownBlock.toList ++ Fs.flatten
section
variable {α β : Type} {d : Knd α} {e : Nat} {w w1 : World} {v : Value} {xs : List α} {F : List Nat} {Fs : List (List Nat)} {cs : List Value}

theorem Row.below {A : Option Addr} {n : Nat} (h : d.Row w A n xs) (hb : Below w.heap.size w w1) : d.Row w1 A n xs :=
  ⟨h.1, h.2.1, fun hn => by
    obtain ⟨ad, e, hc⟩ := h.2.2 hn
    refine ⟨ad, e, fun j p hj => ?_⟩
    obtain ⟨c, hk, hcell⟩ := hc j p hj
    refine ⟨c, d.K_below hb hk, fun i u hu => ?_⟩
    have := hcell i u hu
    exact cell_below hb (World.block_lt_of_cell? w _ this) this⟩
theorem Row.get {A : Option Addr} {n : Nat} (h : d.Row w A n xs) (i : Nat) (x : α) (hx : xs[i]? = some x) :
    ∃ ad c, A = some ad ∧ d.K w x c ∧ ∀ j u, c[j]? = some u → w.cell? (ad.add (i * d.sz + j)) = some u := by
  have hl : i < xs.length := (List.getElem?_eq_some_iff.1 hx).1
  have h1 := h.1
  obtain ⟨ad, e, hc⟩ := h.2.2 (by omega)
  obtain ⟨c, hk, hcell⟩ := hc i x hx
  exact ⟨ad, c, e, hk, hcell⟩
theorem Els.K {A : Nat} (h : Els d w xs cs Fs) (j : Nat) (p : α) (hp : xs[j]? = some p) : d.K w p ((cs.drop (j * d.sz)).take d.sz) := by
  have hl : j < Fs.length := by rw [h.2.1]; exact (List.getElem?_eq_some_iff.1 hp).1
  exact d.K_of_O (h.2.2 j p _ hp (List.getElem?_eq_getElem hl))
theorem Els.frame (h : Els d w xs cs Fs) (hm : ∀ g ∈ Fs.flatten, w1.heap[g]? = w.heap[g]?) : Els d w1 xs cs Fs :=
  ⟨h.1, h.2.1, fun j p Fj hp hF => d.O_frame (fun g hg => hm g (List.mem_flatten.2 ⟨Fj, List.mem_of_getElem? hF, hg⟩)) (h.2.2 j p Fj hp hF)⟩
theorem Own.row (h : Own d e w v xs F) : ∃ A c, v = .slice A xs.length c ∧ xs.length ≤ c ∧ d.Row w A xs.length xs := by
  obtain ⟨inner, Fs, ho, hr, rfl⟩ := h
  have hlen := ho.1
  rcases ho.2 with ⟨rfl, h0⟩ | ⟨g, cap, cur, rfl, _, hh, hnc, hcm, hcs, ht⟩
  · rw [h0]
    exact ⟨none, 0, rfl, Nat.le_refl _, h0, by omega, fun hn => absurd hn (by omega)⟩
  · refine ⟨_, _, rfl, hnc, rfl, by unfold maxLen at hcm; omega, fun hn => ⟨_, rfl, fun j p hj => ?_⟩⟩
    refine ⟨_, Els.K (A := 0) hr j p hj, fun i u hu => ?_⟩
    have hi : i < d.sz := by
      have h3 := (List.getElem?_eq_some_iff.1 hu).1
      rw [List.length_take] at h3
      omega
    have hjl : j < xs.length := (List.getElem?_eq_some_iff.1 hj).1
    rw [List.getElem?_take_of_lt hi, List.getElem?_drop] at hu
    exact (World.ownsRow.cells (g := g) ho rfl) (j * d.sz + i) u hu
theorem Own.frame (h : Own d e w v xs F) (hm : ∀ g ∈ F, w1.heap[g]? = w.heap[g]?) : Own d e w1 v xs F := by
  obtain ⟨inner, Fs, ho, hr, rfl⟩ := h
  refine ⟨inner, Fs, ?_, hr.frame (fun g hg => hm g (List.mem_append_right _ hg)), rfl⟩
  obtain ⟨h1, h2⟩ := ho
  refine ⟨h1, ?_⟩
  rcases h2 with h2 | ⟨g, cap, cur, rfl, hg, hh, r⟩
  · exact .inl h2
  · exact .inr ⟨g, cap, cur, rfl, hg, (hm g (by simp [Value.ownBlock])).trans hh, r⟩
theorem Own.lt (h : Own d e w v xs F) : ∀ g ∈ F, g < w.heap.size := by
  obtain ⟨inner, Fs, ho, hr, rfl⟩ := h
  intro g hg
  rcases List.mem_append.1 hg with hg | hg
  · exact (World.ownsRow.lt ho g (by simpa using hg)).2
  · obtain ⟨Fj, hFj, hgj⟩ := List.mem_flatten.1 hg
    obtain ⟨j, hj⟩ := List.mem_iff_getElem?.1 hFj
    have hl : j < xs.length := by rw [← hr.2.1]; exact (List.getElem?_eq_some_iff.1 hj).1
    exact d.O_lt (hr.2.2 j _ Fj (List.getElem?_eq_getElem hl) hj) g hgj
theorem Own.nil (d : Knd α) (e : Nat) (w : World) : Own d e w (.slice none 0 0) [] [] :=
  ⟨[], [], ⟨by simp, .inl ⟨rfl, rfl⟩⟩, ⟨by simp, rfl, fun j p F h => by simp at h⟩, rfl⟩
end

def scalar {α : Type} (enc : α → Value) (h1 : ∀ x, (enc x).oneCell' = true) : Knd α where
  sz := 1
  K := fun _ x cs => cs = [enc x]
  O := fun _ x cs F => cs = [enc x] ∧ F = []
  K_len := fun h => by rw [h]; rfl
  K_one := fun h u hu => by
    rw [h] at hu
    rw [List.mem_singleton.1 hu]
    exact h1 _
  K_below := fun _ h => h
  K_of_O := fun h => h.1
  O_lt := fun h g hg => by rw [h.2] at hg; simp at hg
  O_frame := fun _ h => h
def int (k : IntKind) : Knd Int := scalar (Value.int k) (fun _ => rfl)
def bool : Knd Bool := scalar Value.bool (fun _ => rfl)
def str : Knd ByteArray := scalar Value.string (fun _ => rfl)
def slice {α : Type} (e : Nat) (d : Knd α) : Knd (List α) where
  sz := 1
  K := fun w xs cs => ∃ A c, cs = [.slice A xs.length c] ∧ xs.length ≤ c ∧ d.Row w A xs.length xs
  O := fun w xs cs F => ∃ v, cs = [v] ∧ d.Own e w v xs F
  K_len := by
    rintro w x cs ⟨A, c, rfl, _⟩
    rfl
  K_one := by
    rintro w x cs ⟨A, c, rfl, _⟩ u hu
    rw [List.mem_singleton.1 hu]
    rfl
  K_below := by
    rintro w w1 x cs hb ⟨A, c, rfl, hl, hr⟩
    exact ⟨A, c, rfl, hl, hr.below hb⟩
  K_of_O := by
    rintro w x cs F ⟨v, rfl, h⟩
    obtain ⟨A, c, rfl, hl, hr⟩ := h.row
    exact ⟨A, c, rfl, hl, hr⟩
  O_lt := by
    rintro w x cs F ⟨v, rfl, h⟩
    exact h.lt
  O_frame := by
    rintro w w1 x cs F hm ⟨v, rfl, h⟩
    exact ⟨v, rfl, h.frame hm⟩
def pair {α β : Type} (a : Knd α) (b : Knd β) : Knd (α × β) where
  sz := a.sz + b.sz
  K := fun w x cs => ∃ c0 c1, cs = c0 ++ c1 ∧ a.K w x.1 c0 ∧ b.K w x.2 c1
  O := fun w x cs F => ∃ c0 c1 F0 F1, cs = c0 ++ c1 ∧ F = F0 ++ F1 ∧ a.O w x.1 c0 F0 ∧ b.O w x.2 c1 F1
  K_len := by
    rintro w x cs ⟨c0, c1, rfl, h0, h1⟩
    rw [List.length_append, a.K_len h0, b.K_len h1]
  K_one := by
    rintro w x cs ⟨c0, c1, rfl, h0, h1⟩ u hu
    rcases List.mem_append.1 hu with hu | hu
    · exact a.K_one h0 u hu
    · exact b.K_one h1 u hu
  K_below := by
    rintro w w1 x cs hb ⟨c0, c1, rfl, h0, h1⟩
    exact ⟨c0, c1, rfl, a.K_below hb h0, b.K_below hb h1⟩
  K_of_O := by
    rintro w x cs F ⟨c0, c1, F0, F1, rfl, rfl, h0, h1⟩
    exact ⟨c0, c1, rfl, a.K_of_O h0, b.K_of_O h1⟩
  O_lt := by
    rintro w x cs F ⟨c0, c1, F0, F1, rfl, rfl, h0, h1⟩ g hg
    rcases List.mem_append.1 hg with hg | hg
    · exact a.O_lt h0 g hg
    · exact b.O_lt h1 g hg
  O_frame := by
    rintro w w1 x cs F hm ⟨c0, c1, F0, F1, rfl, rfl, h0, h1⟩
    exact ⟨c0, c1, F0, F1, rfl, rfl, a.O_frame (fun g hg => hm g (List.mem_append_left _ hg)) h0, b.O_frame (fun g hg => hm g (List.mem_append_right _ hg)) h1⟩
def iso {α β : Type} (d : Knd α) (f : β → α) : Knd β where
  sz := d.sz
  K := fun w x cs => d.K w (f x) cs
  O := fun w x cs F => d.O w (f x) cs F
  K_len := d.K_len
  K_one := d.K_one
  K_below := d.K_below
  K_of_O := d.K_of_O
  O_lt := d.O_lt
  O_frame := d.O_frame
end Knd
end Go.Proofs.YthinhlcfpaaldaaGreat.Mem

/- Arguments of any nesting (structs, slices, texts, numbers, truths) opened to kinds: one lemma a form of type. -/
namespace Go.Proofs.YthinhlcfpaaldaaGreat.Open
open Go Go.ChangeShapes Go.WideShapes Go.Deep Go.RowKit Go.Proofs.YthinhlcfpaaldaaGreat.Mem

/-- What is read at a type stands as this kind says, and meets V. -/
def OpenK (P : Program) (t : TypeId) {α : Type} (k : Knd α) (V : α → Prop) : Prop :=
  ∀ (H : Type) (enc : TypeId × Value → H) (w : World) (base : Nat) (spare : Nat → Bool) (held : Bool) (fuel : Nat) (cs : List Value) (x : DataW H × List MemPlace),
    DataW.trod enc P w base spare held fuel t cs = some x → ∃ a, k.K w a cs ∧ V a

theorem open_int {P : Program} {t : TypeId} {i : IntKind} (ht : P.underlying t = some (.int i)) : OpenK P t (Knd.int i) (fun n => (Lit.int i n).wf = true) := by
  intro H enc w base spare held fuel cs x h
  obtain ⟨n, rfl, _, hw⟩ := DataW.trod_int ht h
  exact ⟨n, rfl, hw⟩

theorem open_str {P : Program} {t : TypeId} (ht : P.underlying t = some .string) : OpenK P t Knd.str (fun s => s.size ≤ maxLen) := by
  intro H enc w base spare held fuel cs x h
  obtain ⟨s, rfl, _, hs⟩ := DataW.trod_string ht h
  exact ⟨s, rfl, hs⟩

theorem list_of {α : Type} (len : Nat) (R : Nat → α → Prop) (h : ∀ i, i < len → ∃ a, R i a) : ∃ l : List α, l.length = len ∧ ∀ i a, l[i]? = some a → R i a := by
  induction len with
  | zero => exact ⟨[], rfl, fun i a h => by simp at h⟩
  | succ n ih =>
    obtain ⟨l, hl, hr⟩ := ih (fun i hi => h i (by omega))
    obtain ⟨a, ha⟩ := h n (by omega)
    refine ⟨l ++ [a], by simp [hl], fun i b hb => ?_⟩
    rcases Nat.lt_or_ge i l.length with hi | hi
    · rw [List.getElem?_append_left hi] at hb
      exact hr i b hb
    · have hi' : i = l.length := by
        have := (List.getElem?_eq_some_iff.1 hb).1
        simp at this
        omega
      subst hi'
      simp at hb
      subst hb
      rw [hl]
      exact ha

theorem open_row {P : Program} {t e : TypeId} {E : Nat} {α : Type} {d : Knd α} {V : α → Prop} (ht : P.underlying t = some (.slice e)) (hC : P.cellsOf e = d.sz) (he : OpenK P e d V) :
    OpenK P t (Knd.slice E d) (fun l => l.length ≤ maxLen ∧ ∀ a ∈ l, V a) := by
  intro H enc w base spare held fuel cs x h
  rcases open_slice ht h with ⟨rfl, _⟩ | ⟨a, len, cap, m, n, D, Pl, rfl, hb, hl, hm, hmm, hx, hi⟩
  · exact ⟨[], ⟨none, 0, rfl, Nat.le_refl _, rfl, by simp, fun h => absurd h (by simp)⟩, by simp [maxLen], by simp⟩
  · have hlm : len ≤ m := by rw [hmm]; split <;> omega
    have hex : ∀ i, i < len → ∃ y : α, (∃ c, c.length = d.sz ∧ d.K w y c ∧ ∀ j u, c[j]? = some u → w.cell? (a.add (i * d.sz + j)) = some u) ∧ V y := by
      intro i hil
      obtain ⟨cs', hc, htr⟩ := hi i (by omega)
      obtain ⟨y, hk, hv⟩ := he H enc w base spare held n cs' _ htr
      obtain ⟨_, hcl, hat⟩ := World.cells?_some hc
      refine ⟨y, ⟨cs', d.K_len hk, hk, fun j u hu => ?_⟩, hv⟩
      have hj : j < cs'.length := (List.getElem?_eq_some_iff.1 hu).1
      have := hat j (by omega)
      rw [hC, Go.Deep.add_add] at this
      rw [this, hu]
    obtain ⟨l, hll, hlr⟩ := list_of len _ hex
    refine ⟨l, ⟨some a, cap, by rw [hll], by omega, ?_⟩, by omega, fun y hy => ?_⟩
    · rw [hll]
      refine ⟨hll, by unfold maxLen at hm; omega, fun _ => ⟨a, rfl, fun j p hp => ?_⟩⟩
      obtain ⟨c, _, hk, hc⟩ := (hlr j p hp).1
      exact ⟨c, hk, hc⟩
    · obtain ⟨i, hi⟩ := List.mem_iff_getElem?.1 hy
      exact (hlr i y hi).2

/-- The fields from an offset on. -/
def OpenL (P : Program) (off : Nat) (fs : List Field) {α : Type} (k : Knd α) (V : α → Prop) : Prop :=
  ∀ (H : Type) (enc : TypeId × Value → H) (w : World) (base : Nat) (spare : Nat → Bool) (held : Bool) (n : Nat) (cs : List Value), cs.length = off + k.sz →
    (∀ f ∈ fs, ∃ y, DataW.trod enc P w base spare held n f.type ((cs.drop f.offset).take (P.cellsOf f.type)) = some y) → ∃ a, k.K w a (cs.drop off) ∧ V a

theorem open_last {P : Program} {off : Nat} {f : Field} {α : Type} {k : Knd α} {V : α → Prop} (ho : f.offset = off) (hC : P.cellsOf f.type = k.sz) (h : OpenK P f.type k V) : OpenL P off [f] k V := by
  intro H enc w base spare held n cs hl hf
  obtain ⟨y, hy⟩ := hf f (by simp)
  obtain ⟨a, hk, hv⟩ := h H enc w base spare held n _ y hy
  refine ⟨a, ?_, hv⟩
  rw [ho, hC, List.take_of_length_le (by rw [List.length_drop]; omega)] at hk
  exact hk

theorem open_cons {P : Program} {off : Nat} {f : Field} {fs : List Field} {α β : Type} {k : Knd α} {V : α → Prop} {k' : Knd β} {V' : β → Prop} (off' : Nat) (hn : off + k.sz = off') (ho : f.offset = off) (hC : P.cellsOf f.type = k.sz) (h : OpenK P f.type k V) (h' : OpenL P off' fs k' V') :
    OpenL P off (f :: fs) (Knd.pair k k') (fun x => V x.1 ∧ V' x.2) := by
  subst hn
  intro H enc w base spare held n cs hl hf
  have hl' : cs.length = off + (k.sz + k'.sz) := hl
  obtain ⟨y, hy⟩ := hf f (by simp)
  obtain ⟨a, hk, hv⟩ := h H enc w base spare held n _ y hy
  obtain ⟨b, hk', hv'⟩ := h' H enc w base spare held n cs (by omega) (fun g hg => hf g (by simp [hg]))
  refine ⟨(a, b), ⟨(cs.drop off).take k.sz, cs.drop (off + k.sz), ?_, ?_, hk'⟩, hv, hv'⟩
  · rw [← List.drop_drop, List.take_append_drop]
  · rw [ho, hC] at hk
    exact hk

theorem open_struct {P : Program} {t : TypeId} {fs : List Field} {α : Type} {k : Knd α} {V : α → Prop} (ht : P.underlying t = some (.struct fs.toArray)) (hC : P.cellsOf t = k.sz) (h : OpenL P 0 fs k V) : OpenK P t k V := by
  intro H enc w base spare held fuel cs x hx
  obtain ⟨xs, n, _, _, hl, hlen, hg⟩ := DataW.trod_struct ht hx
  obtain ⟨a, hk, hv⟩ := h H enc w base spare held n cs (by omega) (fun f hf => by
    obtain ⟨i, hi⟩ := List.mem_iff_getElem?.1 hf
    have hi' : fs.toArray[i]? = some f := by simpa using hi
    have hlt : i < fs.length := (List.getElem?_eq_some_iff.1 hi).1
    have hlen' : xs.length = fs.length := by simpa using hlen
    exact ⟨xs[i]'(by omega), (hg i f hi').trans (List.getElem?_eq_getElem _)⟩)
  exact ⟨a, by simpa using hk, hv⟩

theorem open_iso {P : Program} {t : TypeId} {α β : Type} {d : Knd α} {V : α → Prop} (f : β → α) (g : α → β) (hfg : ∀ x, f (g x) = x) (h : OpenK P t d V) : OpenK P t (Knd.iso d f) (fun y => V (f y)) := by
  intro H enc w base spare held fuel cs x hx
  obtain ⟨a, hk, hv⟩ := h H enc w base spare held fuel cs x hx
  refine ⟨g a, ?_, ?_⟩
  · show d.K w (f (g a)) cs
    rw [hfg]
    exact hk
  · show V (f (g a))
    rw [hfg]
    exact hv

theorem open_imp {P : Program} {t : TypeId} {α : Type} {d : Knd α} {V V' : α → Prop} (h : OpenK P t d V) (hv : ∀ a, V a → V' a) : OpenK P t d V' := by
  intro H enc w base spare held fuel cs x hx
  obtain ⟨a, hk, ha⟩ := h H enc w base spare held fuel cs x hx
  exact ⟨a, hk, hv a ha⟩

/-- Use: an argument's value. -/
theorem OpenK.at_ {P : Program} {t : TypeId} {α : Type} {k : Knd α} {V : α → Prop} (h : OpenK P t k V) {H : Type} {enc : TypeId × Value → H} {w : World} {base : Nat} {spare : Nat → Bool} {held : Bool} {v : Value} {d : DataW H} {p : List MemPlace}
    (ht : DataW.Trod enc P w base spare held t v d p) : ∃ a, k.K w a v.cells.toList ∧ V a := by
  obtain ⟨fuel, hf⟩ := ht
  exact h H enc w base spare held fuel _ _ hf

end Go.Proofs.YthinhlcfpaaldaaGreat.Open

/- Rows of the call's own: made, written element by element, with the blocks that each element owns. -/
namespace Go.Proofs.YthinhlcfpaaldaaGreat.Mem
open Go Go.RowKit
set_option linter.unusedVariables false
set_option linter.unusedSimpArgs false

/-- Values stored one behind the other. -/
def setCells (g : Nat) : World → Nat → List Value → World
  | w, _, [] => w
  | w, o, u :: us => setCells g (w.setCell ⟨g, o, none⟩ u) (o + 1) us
def setL {α : Type} : List α → Nat → List α → List α
  | l, _, [] => l
  | l, o, u :: us => setL (l.set o u) (o + 1) us
theorem setL_length {α : Type} : ∀ (us : List α) (l : List α) (o : Nat), (setL l o us).length = l.length
  | [], _, _ => rfl
  | u :: us, l, o => by rw [setL, setL_length us]; simp
theorem setL_get {α : Type} : ∀ (us : List α) (l : List α) (o j : Nat), o + us.length ≤ l.length → (setL l o us)[j]? = if o ≤ j ∧ j < o + us.length then us[j - o]? else l[j]?
  | [], l, o, j, h => by
    rw [setL, if_neg]
    simp
  | u :: us, l, o, j, h => by
    simp only [List.length_cons] at h
    rw [setL, setL_get us _ (o + 1) j (by simp; omega)]
    by_cases h1 : j = o
    · subst h1
      rw [if_neg (by omega), if_pos (by simp)]
      rw [List.getElem?_set_self (by omega)]
      simp
    · by_cases h2 : o + 1 ≤ j ∧ j < o + 1 + us.length
      · rw [if_pos h2, if_pos (by simp; omega)]
        obtain ⟨m, rfl⟩ : ∃ m, j = o + 1 + m := ⟨j - (o + 1), by omega⟩
        have e1 : o + 1 + m - (o + 1) = m := by omega
        have e2 : o + 1 + m - o = m + 1 := by omega
        rw [e1, e2]
        rfl
      · rw [if_neg h2, if_neg (by simp; omega), List.getElem?_set_ne (by omega)]
theorem setL_seg {α : Type} (us l : List α) (o : Nat) (h : o + us.length ≤ l.length) : ((setL l o us).drop o).take us.length = us := by
  apply List.ext_getElem?
  intro j
  rcases Nat.lt_or_ge j us.length with hj | hj
  · rw [List.getElem?_take_of_lt hj, List.getElem?_drop, setL_get _ _ _ _ h, if_pos (by omega)]
    congr 1
    omega
  · rw [List.getElem?_eq_none (by rw [List.length_take]; omega), List.getElem?_eq_none hj]
theorem setL_far {α : Type} (us l : List α) (o a s : Nat) (h : o + us.length ≤ l.length) (hd : a + s ≤ o ∨ o + us.length ≤ a) : ((setL l o us).drop a).take s = (l.drop a).take s := by
  apply List.ext_getElem?
  intro j
  rcases Nat.lt_or_ge j s with hj | hj
  · rw [List.getElem?_take_of_lt hj, List.getElem?_drop, setL_get _ _ _ _ h, if_neg (by omega), List.getElem?_take_of_lt hj, List.getElem?_drop]
  · rw [List.getElem?_eq_none (by rw [List.length_take]; omega), List.getElem?_eq_none (by rw [List.length_take]; omega)]
theorem setCells_far (g : Nat) : ∀ (us : List Value) (w : World) (o k : Nat), k ≠ g → (setCells g w o us).heap[k]? = w.heap[k]?
  | [], w, o, k, h => rfl
  | u :: us, w, o, k, h => by rw [setCells, setCells_far g us _ _ k h]; exact Below.heap_setCell w ⟨g, o, none⟩ u k h
theorem setCells_own {e size n cap : Nat} {g : Nat} : ∀ (us : List Value) (w : World) (o : Nat) (xs : List Value), w.ownsRow 0 e size (.slice (some ⟨g, 0, none⟩) n cap) n xs → (setCells g w o us).ownsRow 0 e size (.slice (some ⟨g, 0, none⟩) n cap) n (setL xs o us)
  | [], _, _, _, h => h
  | u :: us, w, o, xs, h => by rw [setCells, setL]; exact setCells_own us _ _ _ (World.ownsRow.stored h o u).1
theorem setCells_but {F : List Nat} {w0 : World} {g : Nat} (hg : g ∈ F ∨ w0.heap.size ≤ g) : ∀ (us : List Value) (w : World) (o : Nat), But F w0 w → But F w0 (setCells g w o us)
  | [], _, _, h => h
  | u :: us, w, o, h => by
    rw [setCells]
    refine setCells_but hg us _ _ ?_
    rcases hg with hg | hg
    · exact h.set hg o u
    · exact h.set_new hg o u
theorem flat_set {α : Type} (Fs : List (List α)) (k : Nat) (hk : k < Fs.length) (Fi : List α) : (Fs.set k Fi).flatten = (Fs.take k).flatten ++ (Fi ++ (Fs.drop (k + 1)).flatten) := by
  rw [List.set_eq_take_append_cons_drop, if_pos hk, List.flatten_append, List.flatten_cons]
theorem flat_split {α : Type} (Fs : List (List α)) (k : Nat) (hk : k < Fs.length) : Fs.flatten = (Fs.take k).flatten ++ (Fs[k] ++ (Fs.drop (k + 1)).flatten) := by
  have h : Fs.set k Fs[k] = Fs := by simp
  have := flat_set Fs k hk Fs[k]
  rwa [h] at this
theorem mem_put {Fs : List (List Nat)} {k q : Nat} {Fi : List Nat} (hk : k < Fs.length) (h : q ∈ (Fs.set k Fi).flatten) : q ∈ Fi ∨ q ∈ Fs.flatten := by
  rw [flat_set Fs k hk] at h
  rw [flat_split Fs k hk]
  simp only [List.mem_append] at h ⊢
  rcases h with h | h | h
  · exact .inr (.inl h)
  · exact .inl h
  · exact .inr (.inr (.inr h))
theorem nodup_put {Fs : List (List Nat)} {k g : Nat} {Fi : List Nat} (hk : k < Fs.length) (h : (g :: Fs.flatten).Nodup) (hFi : Fi.Nodup) (hd : ∀ q ∈ Fi, q ∉ g :: Fs.flatten) : (g :: (Fs.set k Fi).flatten).Nodup := by
  rw [List.nodup_cons] at h ⊢
  obtain ⟨h1, h2⟩ := h
  refine ⟨fun hm => ?_, ?_⟩
  · rcases mem_put hk hm with hm | hm
    · exact hd g hm (by simp)
    · exact h1 hm
  · have hd' : ∀ q ∈ Fi, q ∉ Fs.flatten := fun q hq hm => hd q hq (by simp only [List.mem_cons]; exact .inr hm)
    rw [flat_set Fs k hk]
    rw [flat_split Fs k hk] at h2 hd'
    simp only [List.nodup_append, List.mem_append] at h2 hd' ⊢
    obtain ⟨a, ⟨b, c, d⟩, e⟩ := h2
    refine ⟨a, ⟨hFi, c, fun x hx y hy hxy => ?_⟩, fun x hx y hy hxy => ?_⟩
    · subst hxy
      exact hd' x hx (.inr (.inr hy))
    · subst hxy
      rcases hy with hy | hy
      · exact hd' x hy (.inl hx)
      · exact e x hx x (.inr hy) rfl
namespace Knd
def OwnF {α : Type} (d : Knd α) (e : Nat) (w : World) (v : Value) (xs : List α) (Fs : List (List Nat)) : Prop := ∃ inner, w.ownsRow 0 e d.sz v xs.length inner ∧ Els d w xs inner Fs
section
variable {α : Type} {d : Knd α} {e : Nat} {w w1 : World} {v : Value} {xs : List α} {F : List Nat} {Fs : List (List Nat)} {g n c : Nat}
theorem OwnF.own (h : OwnF d e w v xs Fs) : Own d e w v xs (v.ownBlock.toList ++ Fs.flatten) := by
  obtain ⟨inner, ho, hr⟩ := h
  exact ⟨inner, Fs, ho, hr, rfl⟩
theorem Own.fs (h : Own d e w v xs F) : ∃ Fs, OwnF d e w v xs Fs ∧ F = v.ownBlock.toList ++ Fs.flatten := by
  obtain ⟨inner, Fs, ho, hr, rfl⟩ := h
  exact ⟨Fs, ⟨inner, ho, hr⟩, rfl⟩
theorem OwnF.len (h : OwnF d e w v xs Fs) : Fs.length = xs.length := by
  obtain ⟨inner, ho, hr⟩ := h
  exact hr.2.1
theorem OwnF.frame (h : OwnF d e w v xs Fs) (hm : ∀ g ∈ v.ownBlock.toList ++ Fs.flatten, w1.heap[g]? = w.heap[g]?) : OwnF d e w1 v xs Fs := by
  obtain ⟨Fs', h2, h3⟩ := (h.own.frame hm).fs
  obtain ⟨inner, ho, hr⟩ := h
  refine ⟨inner, ?_, hr.frame (fun g hg => hm g (List.mem_append_right _ hg))⟩
  obtain ⟨h1, h2⟩ := ho
  refine ⟨h1, ?_⟩
  rcases h2 with h2 | ⟨g, cap, cur, rfl, hg, hh, r⟩
  · exact .inl h2
  · exact .inr ⟨g, cap, cur, rfl, hg, (hm g (by simp [Value.ownBlock])).trans hh, r⟩
theorem OwnF.lt (h : OwnF d e w v xs Fs) : ∀ g ∈ v.ownBlock.toList ++ Fs.flatten, g < w.heap.size := h.own.lt
theorem OwnF.below (h : OwnF d e w v xs Fs) (hb : Below w.heap.size w w1) : OwnF d e w1 v xs Fs := h.frame (fun g hg => hb.block g (h.lt g hg))
theorem OwnF.cell (h : OwnF d e w (.slice (some ⟨g, 0, none⟩) n c) xs Fs) (j : Nat) (hj : j < xs.length * d.sz) : ∃ u, w.cell? ⟨g, j, none⟩ = some u := by
  obtain ⟨inner, ho, hr⟩ := h
  have hn : n = xs.length := by
    rcases ho.2 with ⟨h1, _⟩ | ⟨g', cap', cur, h1, _⟩
    · cases h1
    · injection h1
  subst hn
  rw [World.ownsRow.cellAt ho j hj]
  have : j < inner.length := by rw [ho.1]; exact hj
  exact ⟨_, List.getElem?_eq_getElem this⟩
theorem OwnF.free (h : OwnF d e w (.slice (some ⟨g, 0, none⟩) n c) xs Fs) (j : Nat) : w.frozen? ⟨g, j, none⟩ = false := by
  obtain ⟨inner, ho, hr⟩ := h
  have hn : n = xs.length := by
    rcases ho.2 with ⟨h1, _⟩ | ⟨g', cap', cur, h1, _⟩
    · cases h1
    · injection h1
  subst hn
  exact World.ownsRow.frozenAt ho j
theorem Own.set_old (h : Own d e w v xs F) {B : Nat} (hF : ∀ q ∈ F, B ≤ q) {p : Addr} (hp : p.block < B) (u : Value) : Own d e (w.setCell p u) v xs F :=
  h.frame (fun q hq => Below.heap_setCell w p u q (by have := hF q hq; omega))
theorem Own.below (h : Own d e w v xs F) (hb : Below w.heap.size w w1) : Own d e w1 v xs F := h.frame (fun q hq => hb.block q (h.lt q hq))
/-- One element written anew. -/
theorem OwnF.put (h : OwnF d e w (.slice (some ⟨g, 0, none⟩) n c) xs Fs) (k : Nat) (hk : k < xs.length) (us : List Value) (x : α) (Fi : List Nat) (hO : d.O w x us Fi) (hg : g ∉ Fi) (hn : g ∉ Fs.flatten) :
    OwnF d e (setCells g w (k * d.sz) us) (.slice (some ⟨g, 0, none⟩) n c) (xs.set k x) (Fs.set k Fi) := by
  obtain ⟨inner, ho, hr⟩ := h
  have hn' : n = xs.length := by
    rcases ho.2 with ⟨h1, _⟩ | ⟨g', cap', cur, h1, _⟩
    · cases h1
    · injection h1
  subst hn'
  have hus : us.length = d.sz := d.K_len (d.K_of_O hO)
  have hle : k * d.sz + us.length ≤ inner.length := by rw [hus, ho.1, ← Nat.succ_mul]; exact Nat.mul_le_mul_right _ hk
  refine ⟨setL inner (k * d.sz) us, ?_, ?_, ?_, fun j p Fj hp hF => ?_⟩
  · have := setCells_own us w (k * d.sz) inner ho
    rwa [List.length_set]
  · rw [setL_length, List.length_set]
    exact ho.1
  · rw [List.length_set, List.length_set]
    exact hr.2.1
  · by_cases hj : j = k
    · subst hj
      have h1 : x = p := by
        rw [List.getElem?_set_self hk] at hp
        exact Option.some.inj hp
      have h2 : Fi = Fj := by
        rw [List.getElem?_set_self (by rw [hr.2.1]; exact hk)] at hF
        exact Option.some.inj hF
      subst h1
      subst h2
      have := setL_seg us inner (j * d.sz) hle
      rw [hus] at this
      rw [this]
      exact d.O_frame (fun q hq => setCells_far g us w _ q (fun he => hg (he ▸ hq))) hO
    · rw [List.getElem?_set_ne (Ne.symm hj)] at hp hF
      rw [setL_far us inner (k * d.sz) (j * d.sz) d.sz hle (by
        rw [hus]
        rcases Nat.lt_or_ge j k with hlt | hge
        · left
          rw [← Nat.succ_mul]
          exact Nat.mul_le_mul_right _ hlt
        · right
          have : k + 1 ≤ j := by omega
          rw [← Nat.succ_mul]
          exact Nat.mul_le_mul_right _ this)]
      exact d.O_frame (fun q hq => setCells_far g us w _ q (fun he => hn (List.mem_flatten.2 ⟨Fj, List.mem_of_getElem? hF, he ▸ hq⟩))) (hr.2.2 j p Fj hp hF)
end
theorem els_made {α : Type} (d : Knd α) (w : World) (z : Value) (z0 : α) (hz : z.cells.size = d.sz) (hs : 0 < d.sz) (h0 : d.O w z0 z.cells.toList []) (m : Nat) : Els d w (List.replicate m z0) (madeCells z.cells (m * d.sz)).toList (List.replicate m []) := by
  refine ⟨by simp [size_madeCells], by simp, fun j p Fj hj hF => ?_⟩
  obtain ⟨hjl, hp⟩ := List.getElem?_eq_some_iff.1 hj
  have hjm : j < m := by simpa using hjl
  have hp' : z0 = p := by simpa using hp
  subst hp'
  have hF' : Fj = [] := by
    obtain ⟨_, h⟩ := List.getElem?_eq_some_iff.1 hF
    simpa using h.symm
  subst hF'
  have hle : j * d.sz + d.sz ≤ m * d.sz := by rw [← Nat.succ_mul]; exact Nat.mul_le_mul_right _ hjm
  have : ((madeCells z.cells (m * d.sz)).toList.drop (j * d.sz)).take d.sz = z.cells.toList := by
    apply List.ext_getElem
    · simp [size_madeCells, hz]
      omega
    · intro i h1 h2
      have hi : i < d.sz := by
        rw [List.length_take] at h1
        omega
      simp only [List.getElem_take, List.getElem_drop, Array.getElem_toList]
      have hmod : (j * d.sz + i) % z.cells.size = i := by
        rw [hz, Nat.mul_comm, Nat.mul_add_mod]
        exact Nat.mod_eq_of_lt hi
      simp only [madeCells, Array.getElem_map, Array.getElem_range, hmod]
      rw [getElem!_pos _ _ (by omega)]
  rw [this]
  exact h0
/-- make([]T, n), as an arm of the walk. -/
theorem wp_made {α : Type} (d : Knd α) {P : Program} {ops : Array Oper} {rest : List Oper} {o : Oper} {a : Act} {Q : Exit → Act → World → Prop} {W : World} (hgd : o.guard = none) (t x y : _) (ho : o.op = .makeSlice t x y) (n : Nat) (hx : a.eval x = .int .i64 n) (hy : a.eval y = .int .i64 n)
    (e : Nat) (ht : P.underlying t = some (.slice e)) (z : Value) (bytes : Nat) (hinfo : (P.info? e).map (fun i => (i.zero, i.size, i.bytes)) = some (some z, d.sz, bytes)) (hz : z.cells.size = d.sz) (hs0 : 0 < d.sz) (hb0 : 0 < bytes)
    (z0 : α) (hzero : ∀ w, d.O w z0 z.cells.toList []) (hl : n * bytes ≤ 281474976710656)
    (h : ∀ g w1, g = W.heap.size → OwnF d e w1 (.slice (some ⟨g, 0, none⟩) n n) (List.replicate n z0) (List.replicate n []) → Below W.heap.size W w1 → W.heap.size < w1.heap.size → wpList P ops Q rest (a.put o.dst (.slice (some ⟨g, 0, none⟩) n n)) w1) : wpList P ops Q (o :: rest) a W := by
  obtain ⟨i0, hi, hzz⟩ := Option.map_eq_some_iff.1 hinfo
  simp only [Prod.mk.injEq] at hzz
  obtain ⟨hz0, hz1, hz2⟩ := hzz
  have hm : n ≤ 281474976710656 := Nat.le_trans (Nat.le_mul_of_pos_right _ hb0) hl
  have hr := run_make (P := P) W t e i0 z ht hi hz0 .i64 .i64 (n : Int) (n : Int) (by omega) (by omega)
    (by
      have h3 : ((i0.bytes * n : Nat) : Int) ≤ 281474976710656 := by rw [hz2, Nat.mul_comm]; omega
      rwa [Int.natCast_mul] at h3) (by omega)
  simp only [Int.toNat_natCast] at hr
  rw [hz1] at hr
  have hrun : (execOp a.eval o).run P W = .ok (.value (.slice (some ⟨W.heap.size, 0, none⟩) n n)) (W.alloc (.cells (madeCells z.cells (n * d.sz)) e)) := by simp [execOp, ho, hx, hy, hr]
  refine wpList_plain hgd fun K hK => ?_
  unfold Oper.wp
  rw [hrun]
  refine hK _ _ (h _ _ rfl ⟨_, ?_, els_made d _ z z0 hz hs0 (hzero _) n⟩ ((Below.refl _ _).alloc (Nat.le_refl _) _) (by simp))
  have h2 := World.ownsRow_lit (base := 0) (e := e) (size := d.sz) W (madeCells z.cells (n * d.sz)) n (Nat.zero_le _) (by simp [maxLen]; omega) (size_madeCells _ _)
  simpa using h2
end Knd
/-- What a call hands back as a new row. -/
def NewRow {α : Type} (d : Knd α) (e : Nat) (xs : List α) (w : World) (en : Ending) (w' : World) : Prop := ∃ v F, en = .returned v ∧ d.Own e w' v xs F ∧ F.Nodup ∧ (∀ g ∈ F, w.heap.size ≤ g) ∧ Below w.heap.size w w'
/-- What stays where nothing old is turned. -/
def Stab (R : World → Prop) : Prop := ∀ W W', Below W.heap.size W W' → R W → R W'
theorem Stab.true : Stab (fun _ => True) := fun _ _ _ h => h
theorem Stab.and {R R' : World → Prop} (h : Stab R) (h' : Stab R') : Stab (fun W => R W ∧ R' W) := fun W W' hb k => ⟨h W W' hb k.1, h' W W' hb k.2⟩
theorem Stab.row {α : Type} (d : Knd α) (A : Option Addr) (n : Nat) (xs : List α) : Stab (fun W => d.Row W A n xs) := fun _ _ hb h => h.below hb
theorem Stab.own {α : Type} (d : Knd α) (e : Nat) (v : Value) (xs : List α) (F : List Nat) : Stab (fun W => d.Own e W v xs F) := fun _ _ hb h => Knd.O_frame (Knd.slice e d) (cs := [v]) (fun g hg => hb.block g (h.lt g hg)) ⟨v, rfl, h⟩ |>.elim (fun u hu => by
  obtain ⟨h1, h2⟩ := hu
  have : u = v := by simpa using h1.symm
  subst this
  exact h2)
/-- Since w nothing old has turned, these blocks stand, and so do these facts. -/
structure Inv (w : World) (L : List (Nat × Obj)) (R : World → Prop) (W : World) : Prop where
  bel : Below w.heap.size w W
  box : ∀ p ∈ L, W.heap[p.1]? = some p.2
  rows : R W
  stab : Stab R
namespace Inv
variable {w W W' : World} {L : List (Nat × Obj)} {R : World → Prop}
theorem start (w : World) : Inv w [] (fun _ => True) w := ⟨Below.refl _ _, fun p h => by simp at h, trivial, Stab.true⟩
theorem step (h : Inv w L R W) (hb : Below W.heap.size W W') : Inv w L R W' := ⟨bl_step h.bel hb, fun p hp => blk_below (h.box p hp) (blk_lt (h.box p hp)) hb, h.stab _ _ hb h.rows, h.stab⟩
theorem bl_drew' (W : World) : Below W.heap.size W W.drew := (Below.refl _ _).drew
theorem drew (h : Inv w L R W) : Inv w L R W.drew := h.step (bl_drew' W)
theorem alloc (h : Inv w L R W) (o : Obj) : Inv w L R (W.alloc o) := h.step ((Below.refl _ _).alloc (Nat.le_refl _) _)
theorem made (h : Inv w L R W) (o : Obj) (g : Nat) (hg : g = W.heap.size) : Inv w ((g, o) :: L) R (W.alloc o) := ⟨(h.alloc o).bel, fun p hp => by
  subst hg
  rcases List.mem_cons.1 hp with rfl | hp
  · exact blk_new W o
  · exact (h.alloc o).box p hp, (h.alloc o).rows, h.stab⟩
theorem add (h : Inv w L R W) {R' : World → Prop} (s : Stab R') (h' : R' W) : Inv w L (fun W => R' W ∧ R W) W := ⟨h.bel, h.box, ⟨h', h.rows⟩, s.and h.stab⟩
theorem at_ (h : Inv w L R W) (k : Nat) {g : Nat} {o : Obj} (hk : L[k]? = some (g, o)) : W.heap[g]? = some o := h.box (g, o) (List.mem_of_getElem? hk)
theorem cell (h : Inv w L R W) (k : Nat) {g : Nat} {cs : Array Value} {t : TypeId} (hk : L[k]? = some (g, .cells cs t (0, 0))) : ∀ i, W.cell? ⟨g, i, none⟩ = cs[i]? := blk_cell (h.at_ k hk)
theorem free (h : Inv w L R W) (k : Nat) {g : Nat} {cs : Array Value} {t : TypeId} (hk : L[k]? = some (g, .cells cs t (0, 0))) : ∀ i, W.frozen? ⟨g, i, none⟩ = false := blk_frozen (h.at_ k hk)
theorem lt (h : Inv w L R W) (k : Nat) {g : Nat} {o : Obj} (hk : L[k]? = some (g, o)) : g < W.heap.size := blk_lt (h.at_ k hk)
theorem cons (h : Inv w L R W) {g : Nat} {o : Obj} (hb : W.heap[g]? = some o) : Inv w ((g, o) :: L) R W := ⟨h.bel, fun p hp => by
  rcases List.mem_cons.1 hp with rfl | hp
  · exact hb
  · exact h.box p hp, h.rows, h.stab⟩
end Inv
/-- A block that has come since some world in which all else stood already. -/
structure New (w : World) (L : List (Nat × Obj)) (R : World → Prop) (g : Nat) (o : Obj) (W : World) : Prop where
  old : w.heap.size ≤ g
  ne : ∀ p ∈ L, p.1 ≠ g
  from_ : ∃ w0 : World, w0.heap.size ≤ g ∧ Inv w L R w0 ∧ Below w0.heap.size w0 W
  blk : W.heap[g]? = some o
namespace New
variable {w W W' : World} {L : List (Nat × Obj)} {R : World → Prop} {g : Nat} {o : Obj}
theorem made (h : Inv w L R W) (o : Obj) : New w L R W.heap.size o (W.alloc o) := ⟨h.bel.size, fun p hp e => by have := blk_lt (h.box p hp); omega, ⟨W, Nat.le_refl _, h, (Below.refl _ _).alloc (Nat.le_refl _) _⟩, blk_new W o⟩
theorem step (h : New w L R g o W) (hb : Below W.heap.size W W') : New w L R g o W' := ⟨h.old, h.ne, by
  obtain ⟨w0, a, b, c⟩ := h.from_
  exact ⟨w0, a, b, bl_step c hb⟩, blk_below h.blk (blk_lt h.blk) hb⟩
theorem cell {cs : Array Value} {t : TypeId} (h : New w L R g (.cells cs t (0, 0)) W) : ∀ i, W.cell? ⟨g, i, none⟩ = cs[i]? := blk_cell h.blk
theorem free {cs : Array Value} {t : TypeId} (h : New w L R g (.cells cs t (0, 0)) W) : ∀ i, W.frozen? ⟨g, i, none⟩ = false := blk_frozen h.blk
theorem set {cs : Array Value} {t : TypeId} (h : New w L R g (.cells cs t (0, 0)) W) (i : Nat) (u : Value) : New w L R g (.cells (cs.setIfInBounds i u) t (0, 0)) (W.setCell ⟨g, i, none⟩ u) := ⟨h.old, h.ne, by
  obtain ⟨w0, a, b, c⟩ := h.from_
  exact ⟨w0, a, b, bl_set c a u⟩, blk_set h.blk i u⟩
theorem put1 {t : TypeId} {z0 u0 : Value} (h : New w L R g (.cells #[z0] t (0, 0)) W) : New w L R g (.cells #[u0] t (0, 0)) (W.setCell ⟨g, 0, none⟩ u0) := by simpa using (h.set 0 u0)
end New
end Go.Proofs.YthinhlcfpaaldaaGreat.Mem

/- The program's records as Lean structures, their kinds, and how an element of a row stands in memory. Written by a program (datgen.py). -/
namespace Go.Proofs.YthinhlcfpaaldaaGreat.Dat
open Go Go.RowKit Go.Proofs.YthinhlcfpaaldaaGreat.Mem
set_option linter.unusedVariables false
set_option linter.unusedSimpArgs false
theorem add_field (ad : Addr) (m j : Nat) (hj : 0 < j) : ad.add (m + j) = ⟨(ad.add m).block, (ad.add m).off + j, none⟩ := by
  unfold Addr.add
  by_cases hm : m = 0
  · subst hm
    simp [Nat.ne_of_gt hj]
  · simp [hm, Nat.add_assoc]
structure DIns where
  op : Int
  a : Int
def zIns : DIns := ⟨0, 0⟩
def kIns : Knd DIns := Knd.iso (Knd.pair (Knd.int .i64) (Knd.int .i64)) (fun x => (x.op, x.a))
/-- What is handed in meets this. -/
def VIns (x : DIns) : Prop := (Lit.int .i64 x.op).wf = true ∧ (Lit.int .i64 x.a).wf = true
theorem kIns_K {w : World} {x : DIns} {cs : List Value} : kIns.K w x cs ↔ cs = [.int .i64 x.op, .int .i64 x.a] := by
  constructor
  · rintro ⟨_, _, rfl, rfl, rfl⟩
    rfl
  · rintro rfl
    exact ⟨[.int .i64 x.op], [.int .i64 x.a], rfl, rfl, rfl⟩
theorem kIns_at {w : World} {A : Option Addr} {m : Nat} {xs : List DIns} (h : kIns.Row w A m xs) (i : Nat) (x : DIns) (hx : xs[i]? = some x) : ∃ (ad : Addr), A = some ad ∧ w.cell? (ad.add (i * 2)) = some (.int .i64 x.op) ∧ w.cell? ⟨(ad.add (i * 2)).block, (ad.add (i * 2)).off + 1, none⟩ = some (.int .i64 x.a) := by
  obtain ⟨ad, c, e, hK, hc0⟩ := h.get i x hx
  have hc : ∀ j u, c[j]? = some u → w.cell? (ad.add (i * 2 + j)) = some u := hc0
  obtain rfl := kIns_K.1 hK
  exact ⟨ad, e, hc 0 _ rfl, (by rw [← add_field _ _ 1 (by omega)]; exact hc 1 _ rfl)⟩

structure DFunc where
  params : Int
  locals : Int
  code : List DIns
def zFunc : DFunc := ⟨0, 0, []⟩
def kFunc : Knd DFunc := Knd.iso (Knd.pair (Knd.int .i64) (Knd.pair (Knd.int .i64) (Knd.slice 305 kIns))) (fun x => (x.params, x.locals, x.code))
/-- What is handed in meets this. -/
def VFunc (x : DFunc) : Prop := (Lit.int .i64 x.params).wf = true ∧ (Lit.int .i64 x.locals).wf = true ∧ (x.code.length ≤ maxLen ∧ ∀ y ∈ x.code, VIns y)
theorem kFunc_K {w : World} {x : DFunc} {cs : List Value} : kFunc.K w x cs ↔ ∃ (A2 : Option Addr) (c2 : Nat), cs = [.int .i64 x.params, .int .i64 x.locals, .slice A2 x.code.length c2] ∧ x.code.length ≤ c2 ∧ kIns.Row w A2 x.code.length x.code := by
  constructor
  · rintro ⟨_, _, rfl, rfl, ⟨_, _, rfl, rfl, ⟨A_code, c_code, rfl, hl_code, hr_code⟩⟩⟩
    exact ⟨A_code, c_code, rfl, hl_code, hr_code⟩
  · rintro ⟨A2, c2, rfl, h2, r2⟩
    exact ⟨[.int .i64 x.params], [.int .i64 x.locals, .slice A2 x.code.length c2], rfl, rfl, ⟨[.int .i64 x.locals], [.slice A2 x.code.length c2], rfl, rfl, ⟨A2, c2, rfl, h2, r2⟩⟩⟩
theorem kFunc_at {w : World} {A : Option Addr} {m : Nat} {xs : List DFunc} (h : kFunc.Row w A m xs) (i : Nat) (x : DFunc) (hx : xs[i]? = some x) : ∃ (ad : Addr) (A2 : Option Addr) (c2 : Nat), A = some ad ∧ w.cell? (ad.add (i * 3)) = some (.int .i64 x.params) ∧ w.cell? ⟨(ad.add (i * 3)).block, (ad.add (i * 3)).off + 1, none⟩ = some (.int .i64 x.locals) ∧ w.cell? ⟨(ad.add (i * 3)).block, (ad.add (i * 3)).off + 2, none⟩ = some (.slice A2 x.code.length c2) ∧ x.code.length ≤ c2 ∧ kIns.Row w A2 x.code.length x.code := by
  obtain ⟨ad, c, e, hK, hc0⟩ := h.get i x hx
  have hc : ∀ j u, c[j]? = some u → w.cell? (ad.add (i * 3 + j)) = some u := hc0
  obtain ⟨A2, c2, rfl, h2, r2⟩ := kFunc_K.1 hK
  exact ⟨ad, A2, c2, e, hc 0 _ rfl, (by rw [← add_field _ _ 1 (by omega)]; exact hc 1 _ rfl), (by rw [← add_field _ _ 2 (by omega)]; exact hc 2 _ rfl), h2, r2⟩
/-- What is left behind a size. -/
def lft (n : Nat) (left : Int) : Int := if (n : Int) ≤ left then left - n else -1
def sumOf {α : Type} (f : α → Nat) (l : List α) : Nat := l.length + (l.map f).sum
def szFunc (x : DFunc) : Nat := x.code.length
def szTexts (l : List ByteArray) : Nat := sumOf ByteArray.size l
def szFuncs (l : List DFunc) : Nat := sumOf szFunc l
theorem szInsS (A : Option Addr) (c : Nat) (l : List DIns) (left : Int) (w : World) (hm : l.length ≤ maxLen) (h0 : 0 ≤ left) (h1 : left ≤ 1048576) : Calls Tryz.prog 205 #[.slice A l.length c, .int .i64 left] w fun e w' => e = .returned (.int .i64 (lft l.length left)) ∧ w = w' := by
  unfold maxLen at hm
  by_cases h : (l.length : Int) ≤ left
  · have h2 : 0 ≤ left - (l.length : Int) := by omega
    go_enter Tryz.func205, Tryz.ntmps205
    go_wp2
    go_ret
    exact ⟨by simp [lft, h], rfl⟩
  · have h2 : left - (l.length : Int) < 0 := by omega
    go_enter Tryz.func205, Tryz.ntmps205
    go_wp2
    go_ret
    exact ⟨by simp [lft]; omega, rfl⟩
theorem szFunc_c (p q : Int) (A : Option Addr) (c : Nat) (l : List DIns) (left : Int) (w : World) (hm : l.length ≤ maxLen) (h0 : 0 ≤ left) (h1 : left ≤ 1048576) : Calls Tryz.prog 125 #[.agg #[.int .i64 p, .int .i64 q, .slice A l.length c], .int .i64 left] w fun e w' => e = .returned (.int .i64 (lft l.length left)) ∧ Below w.heap.size w w' := by
  by_cases h : (l.length : Int) ≤ left
  · have e : lft l.length left = left - l.length := by simp [lft, h]
    have h2 : 0 ≤ left - (l.length : Int) := by omega
    have C := szInsS A c l left
    rw [e] at C
    rw [e]
    clear e
    go_enter Tryz.func125, Tryz.ntmps125
    go_wp2_with fail
    refine (C _ hm h0 h1).mono ?_
    rintro e w' ⟨rfl, rfl⟩
    go_wp2
    go_ret
    exact ⟨rfl, bl9⟩
  · have e : lft l.length left = -1 := by simp [lft]; omega
    have C := szInsS A c l left
    rw [e] at C
    rw [e]
    clear e
    go_enter Tryz.func125, Tryz.ntmps125
    go_wp2_with fail
    refine (C _ hm h0 h1).mono ?_
    rintro e w' ⟨rfl, rfl⟩
    go_wp2
    go_ret
    exact ⟨rfl, bl9⟩
theorem sum_snoc {α : Type} (f : α → Nat) (l : List α) (k : Nat) (x : α) (hx : l[k]? = some x) : ((l.take (k + 1)).map f).sum = ((l.take k).map f).sum + f x := by
  have hk : k < l.length := (List.getElem?_eq_some_iff.1 hx).1
  have e : l[k] = x := (List.getElem?_eq_some_iff.1 hx).2
  rw [List.take_succ_eq_append_getElem hk, List.map_append, List.sum_append, e]
  simp
theorem sum_le {α : Type} (f : α → Nat) (l : List α) (k : Nat) : ((l.take k).map f).sum ≤ (l.map f).sum := by
  have : (l.map f).sum = ((l.take k).map f).sum + ((l.drop k).map f).sum := by
    rw [← List.sum_append, ← List.map_append, List.take_append_drop]
  omega
theorem get_ex {α : Type} (l : List α) (k : Nat) (h : k < l.length) : ∃ x, l[k]? = some x := ⟨l[k], List.getElem?_eq_getElem h⟩
set_option maxHeartbeats 1000000 in
theorem szFuncS (A : Option Addr) (c : Nat) (l : List DFunc) (left : Int) (w : World) (hr : kFunc.Row w A l.length l) (hm : l.length ≤ maxLen) (hv : ∀ x ∈ l, x.code.length ≤ maxLen) (h0 : 0 ≤ left) (h1 : left ≤ 1048576) : Calls Tryz.prog 55 #[.slice A l.length c, .int .i64 left] w fun e w' => e = .returned (.int .i64 (lft (szFuncs l) left)) ∧ Below w.heap.size w w' := by
  unfold maxLen at hm
  by_cases h : (l.length : Int) ≤ left
  · have h2 : 0 ≤ left - (l.length : Int) := by omega
    go_enter Tryz.func55, Tryz.ntmps55
    go_wp2
    go_loopw [1, 5] (fun u i wr => ∃ k s : Nat, k ≤ l.length ∧ i = .int .i64 k ∧ Hid (s = ((l.take k).map szFunc).sum) ∧ u = .int .i64 (left - l.length - s) ∧ 0 ≤ left - l.length - s ∧ Below w.heap.size w wr) (fun _ i _ => l.length - (intOf i).toNat)
    case atStart => exact ⟨0, 0, by omega, rfl, rfl, by simp, by simpa using h2, Below.refl _ _⟩
    case round =>
      obtain ⟨k, s, hk, rfl, hs, rfl, hp, hb⟩ := hrel
      by_cases hlt : k < l.length
      · obtain ⟨x, hx⟩ := get_ex l k hlt
        have hxm := hv x (List.mem_of_getElem? hx)
        have hsn := sum_snoc szFunc l k x hx
        have hle := sum_le szFunc l (k + 1)
        obtain ⟨ad, A2, c2, rfl, q0, q1, q2, hl2, hr2⟩ := kFunc_at (hr.below hb) k x hx
        have HX := Lib.hid hx
        clear hx
        by_cases hf : (szFunc x : Int) ≤ left - l.length - s
        · have HS : Hid (s + szFunc x = ((l.take (k + 1)).map szFunc).sum) := by rw [hsn, ← hs.out]; rfl
          have e : lft x.code.length (left - l.length - s) = left - l.length - ((s + szFunc x : Nat) : Int) := by simp only [szFunc] at hf ⊢; simp [lft, hf]; omega
          have C := szFunc_c x.params x.locals A2 c2 x.code (left - l.length - s)
          rw [e] at C
          have hp2 : 0 ≤ left - (l.length : Int) - ((s + szFunc x : Nat) : Int) := by omega
          clear hsn hle hf e
          generalize s + szFunc x = s2 at C HS hp2
          go_wp2_with fail
          refine (C _ hxm (by omega) (by omega)).mono ?_
          rintro e w' ⟨rfl, hb2⟩
          go_wp2
          go_roundw
          case rel => exact ⟨k + 1, s2, by omega, by go_num, HS, rfl, hp2, bl9⟩
          case measure => simp [intOf]; omega
        · have e : lft x.code.length (left - l.length - s) = -1 := by simp only [szFunc] at hf; simp [lft]; omega
          have C := szFunc_c x.params x.locals A2 c2 x.code (left - l.length - s)
          rw [e] at C
          have hend : lft (szFuncs l) left = -1 := by
            have h3 := hs.out
            simp [lft, szFuncs, sumOf]
            omega
          have HE := Lib.hid hend
          clear hsn hle e hend
          go_wp2_with fail
          refine (C _ hxm (by omega) (by omega)).mono ?_
          rintro e w' ⟨rfl, hb2⟩
          go_wp2
          go_ret
          exact ⟨ret_int HE.out.symm, bl9⟩
      · have hend : lft (szFuncs l) left = left - l.length - s := by
          have h3 := hs.out
          rw [List.take_of_length_le (by omega)] at h3
          simp only [lft, szFuncs, sumOf, ← h3]
          rw [if_pos (by omega)]
          omega
        have HE := Lib.hid hend
        clear hend
        go_wp2
        go_ret
        exact ⟨ret_int HE.out.symm, hb⟩
  · have h2 : left - (l.length : Int) < 0 := by omega
    go_enter Tryz.func55, Tryz.ntmps55
    go_wp2
    go_ret
    exact ⟨by simp [lft, szFuncs, sumOf]; omega, Below.refl _ _⟩
set_option maxHeartbeats 1000000 in
theorem szStringS (A : Option Addr) (c : Nat) (l : List ByteArray) (left : Int) (w : World) (hr : Knd.str.Row w A l.length l) (hm : l.length ≤ maxLen) (hv : ∀ x ∈ l, x.size ≤ maxLen) (h0 : 0 ≤ left) (h1 : left ≤ 1048576) : Calls Tryz.prog 54 #[.slice A l.length c, .int .i64 left] w fun e w' => e = .returned (.int .i64 (lft (szTexts l) left)) ∧ Below w.heap.size w w' := by
  unfold maxLen at hm
  by_cases h : (l.length : Int) ≤ left
  · have h2 : 0 ≤ left - (l.length : Int) := by omega
    go_enter Tryz.func54, Tryz.ntmps54
    go_wp2
    go_loopw [1, 5] (fun u i wr => ∃ k s : Nat, k ≤ l.length ∧ i = .int .i64 k ∧ Hid (s = ((l.take k).map ByteArray.size).sum) ∧ u = .int .i64 (left - l.length - s) ∧ 0 ≤ left - l.length - s ∧ Below w.heap.size w wr) (fun _ i _ => l.length - (intOf i).toNat)
    case atStart => exact ⟨0, 0, by omega, rfl, rfl, by simp, by simpa using h2, Below.refl _ _⟩
    case round =>
      obtain ⟨k, s, hk, rfl, hs, rfl, hp, hb⟩ := hrel
      by_cases hlt : k < l.length
      · obtain ⟨x, hx⟩ := get_ex l k hlt
        have hxm := hv x (List.mem_of_getElem? hx)
        unfold maxLen at hxm
        have hsn := sum_snoc ByteArray.size l k x hx
        have hle := sum_le ByteArray.size l (k + 1)
        obtain ⟨ad, cs, rfl, hK, q⟩ := (hr.below hb).get k x hx
        obtain rfl : cs = [.string x] := hK
        have q0 : wr.cell? (ad.add k) = some (.string x) := by have := q 0 _ rfl; simpa [Knd.str, Knd.scalar] using this
        clear q
        have HX := Lib.hid hx
        clear hx
        by_cases hf : (x.size : Int) ≤ left - l.length - s
        · have HS : Hid (s + x.size = ((l.take (k + 1)).map ByteArray.size).sum) := by rw [hsn, ← hs.out]; rfl
          have hp2 : 0 ≤ left - (l.length : Int) - (s : Int) - (x.size : Int) := by omega
          have e : left - (l.length : Int) - (s : Int) - (x.size : Int) = left - (l.length : Int) - ((s + x.size : Nat) : Int) := by omega
          have E := Lib.hid e
          clear hsn hle hf e
          go_wp2
          go_roundw
          case rel => exact ⟨k + 1, s + x.size, by omega, by go_num, HS, by rw [E.out], by have := E.out; omega, bl9⟩
          case measure => simp [intOf]; omega
        · have hp2 : left - (l.length : Int) - (s : Int) - (x.size : Int) < 0 := by omega
          have hend : lft (szTexts l) left = -1 := by
            have h3 := hs.out
            simp [lft, szTexts, sumOf]
            omega
          have HE := Lib.hid hend
          clear hsn hle hf hend
          go_wp2
          go_ret
          exact ⟨ret_int HE.out.symm, bl9⟩
      · have hend : lft (szTexts l) left = left - l.length - s := by
          have h3 := hs.out
          rw [List.take_of_length_le (by omega)] at h3
          simp only [lft, szTexts, sumOf, ← h3]
          rw [if_pos (by omega)]
          omega
        have HE := Lib.hid hend
        clear hend
        go_wp2
        go_ret
        exact ⟨ret_int HE.out.symm, hb⟩
  · have h2 : left - (l.length : Int) < 0 := by omega
    go_enter Tryz.func54, Tryz.ntmps54
    go_wp2
    go_ret
    exact ⟨by simp [lft, szTexts, sumOf]; omega, Below.refl _ _⟩
theorem lft_le {n : Nat} {left : Int} (h : (n : Int) ≤ left) : lft n left = left - n := by simp [lft, h]
theorem lft_gt {n : Nat} {left : Int} (h : left < (n : Int)) : lft n left = -1 := by simp [lft]; omega
/-- Of a module. -/
def szMod (t : List ByteArray) (l : List DFunc) : Nat := szTexts t + szFuncs l
theorem szModule (A B : Option Addr) (c d : Nat) (t : List ByteArray) (l : List DFunc) (left : Int) (w : World) (ht : Knd.str.Row w A t.length t) (hr : kFunc.Row w B l.length l) (htm : t.length ≤ maxLen) (hm : l.length ≤ maxLen) (htv : ∀ x ∈ t, x.size ≤ maxLen) (hv : ∀ x ∈ l, x.code.length ≤ maxLen) (h0 : 0 ≤ left) (h1 : left ≤ 1048576) :
    Calls Tryz.prog 11 #[.agg #[.slice A t.length c, .slice B l.length d], .int .i64 left] w fun e w' => e = .returned (.int .i64 (lft (szMod t l) left)) ∧ Below w.heap.size w w' := by
  by_cases h : (szTexts t : Int) ≤ left
  · have C := szStringS A c t left
    rw [lft_le h] at C
    have C2 := szFuncS B d l (left - szTexts t)
    have h2 : 0 ≤ left - (szTexts t : Int) := by omega
    by_cases h3 : (szFuncs l : Int) ≤ left - szTexts t
    · rw [lft_le h3] at C2
      have h4 : 0 ≤ left - (szTexts t : Int) - (szFuncs l : Int) := by omega
      have HE := Lib.hid (show left - (szTexts t : Int) - (szFuncs l : Int) = lft (szMod t l) left by unfold szMod; rw [lft_le (by omega)]; omega)
      go_enter Tryz.func11, Tryz.ntmps11
      go_wp2_with fail
      refine (C _ (ht.below bl9) htm htv h0 h1).mono ?_
      rintro e w' ⟨rfl, hb⟩
      obtain ⟨hc, hf⟩ := bcell hb
      have hz := hb.size
      simp at hz
      have y0 : w.heap.size < w'.heap.size := by omega
      have hW : Below w.heap.size w w' := bl9
      go_wp2_with fail
      refine (C2 _ (hr.below bl9) hm hv (by omega) (by omega)).mono ?_
      rintro e w2 ⟨rfl, hb2⟩
      go_wp2
      go_ret
      exact ⟨ret_int HE.out, bl9⟩
    · rw [lft_gt (by omega)] at C2
      have HE := Lib.hid (show -1 = lft (szMod t l) left by unfold szMod; rw [lft_gt (by omega)])
      go_enter Tryz.func11, Tryz.ntmps11
      go_wp2_with fail
      refine (C _ (ht.below bl9) htm htv h0 h1).mono ?_
      rintro e w' ⟨rfl, hb⟩
      obtain ⟨hc, hf⟩ := bcell hb
      have hz := hb.size
      simp at hz
      have y0 : w.heap.size < w'.heap.size := by omega
      have hW : Below w.heap.size w w' := bl9
      go_wp2_with fail
      refine (C2 _ (hr.below bl9) hm hv (by omega) (by omega)).mono ?_
      rintro e w2 ⟨rfl, hb2⟩
      go_wp2
      go_ret
      exact ⟨ret_int HE.out, bl9⟩
  · have C := szStringS A c t left
    rw [lft_gt (by omega)] at C
    have HE := Lib.hid (show -1 = lft (szMod t l) left by unfold szMod; rw [lft_gt (by omega)])
    go_enter Tryz.func11, Tryz.ntmps11
    go_wp2_with fail
    refine (C _ (ht.below bl9) htm htv h0 h1).mono ?_
    rintro e w' ⟨rfl, hb⟩
    go_wp2
    go_ret
    exact ⟨ret_int HE.out, bl9⟩
theorem wf_lo {n : Int} (h : (Lit.int .i64 n).wf = true) : -9223372036854775808 ≤ n := (bounds_i64 h).1
theorem wf_hi {n : Int} (h : (Lit.int .i64 n).wf = true) : n ≤ 9223372036854775807 := (bounds_i64 h).2
theorem mem_sum {α : Type} (f : α → Nat) (l : List α) : ∀ x ∈ l, f x ≤ (l.map f).sum := by
  induction l with
  | nil => intro x h; cases h
  | cons y l ih =>
    intro x h
    rw [List.map_cons, List.sum_cons]
    rcases List.mem_cons.1 h with rfl | h
    · omega
    · have := ih x h
      omega
theorem szMod_small {t : List ByteArray} {l : List DFunc} (hs : (szMod t l : Int) ≤ 1048576) : t.length ≤ 1048576 ∧ l.length ≤ 1048576 ∧ ∀ x ∈ l, x.code.length ≤ 1048576 := by
  unfold szMod szTexts szFuncs sumOf at hs
  refine ⟨by omega, by omega, fun x hx => ?_⟩
  have : szFunc x ≤ (l.map szFunc).sum := mem_sum szFunc l x hx
  have e : szFunc x = x.code.length := rfl
  omega
theorem get_exT {α : Type} (l : List α) (k : Nat) (h : k < l.length) : ∃ x, l[k]? = some x := ⟨l[k], List.getElem?_eq_getElem h⟩
theorem part_set {α : Type} (l : List α) (z x : α) (k : Nat) (hx : l[k]? = some x) : (l.take k ++ List.replicate (l.length - k) z).set k x = l.take (k + 1) ++ List.replicate (l.length - (k + 1)) z := by
  have hk : k < l.length := (List.getElem?_eq_some_iff.1 hx).1
  have e : l[k] = x := (List.getElem?_eq_some_iff.1 hx).2
  rw [List.set_append_right _ _ (by rw [List.length_take]; omega), List.length_take, Nat.min_eq_left (by omega), Nat.sub_self]
  obtain ⟨m, hm⟩ : ∃ m, l.length - k = m + 1 := ⟨l.length - k - 1, by omega⟩
  rw [hm, List.replicate_succ, List.set_cons_zero, List.take_succ_eq_append_getElem hk, e, show l.length - (k + 1) = m by omega]
  simp
theorem rep_set (n k : Nat) : (List.replicate n ([] : List Nat)).set k [] = List.replicate n [] := by
  apply List.ext_getElem
  · simp
  · intro j h1 h2
    simp [List.getElem_set]
theorem rep_flat (n : Nat) : (List.replicate n ([] : List Nat)).flatten = [] := by simp
theorem infoIns : (Tryz.prog.info? 305).map (fun i => (i.zero, i.size, i.bytes)) = some (some (.agg #[.int .i64 0, .int .i64 0]), 2, 16) := by kernel_rfl
theorem toIns (a b : Int) (w : World) : Calls Tryz.prog 285 #[.agg #[.int .i64 a, .int .i64 b]] w fun e w' => e = .returned (.agg #[.int .i64 a, .int .i64 b]) ∧ Below w.heap.size w w' := by
  go_enter Tryz.func285, Tryz.ntmps285
  go_wp2
  refine bodyPost_ret (v := .agg #[.int .i64 a, .int .i64 b]) (by simp [results, Tryz.results285, go_sem, true_and, *]) rfl ⟨rfl, bl9⟩
theorem zIns_O (w : World) : kIns.O w zIns [.int .i64 0, .int .i64 0] [] := ⟨[.int .i64 0], [.int .i64 0], [], [], rfl, rfl, ⟨rfl, rfl⟩, ⟨rfl, rfl⟩⟩
theorem kIns_O (w : World) (x : DIns) : kIns.O w x [.int .i64 x.op, .int .i64 x.a] [] := ⟨[.int .i64 x.op], [.int .i64 x.a], [], [], rfl, rfl, ⟨rfl, rfl⟩, ⟨rfl, rfl⟩⟩
set_option maxHeartbeats 1000000 in
theorem toInsS (A : Option Addr) (c : Nat) (l : List DIns) (w : World) (hr : kIns.Row w A l.length l) (hm : l.length ≤ 1048576) : Calls Tryz.prog 212 #[.slice A l.length c] w (NewRow kIns 305 l w) := by
  go_enter Tryz.func212, Tryz.ntmps212
  go_wp2_with (refine Knd.wp_made kIns rfl _ _ _ rfl l.length rfl rfl 305 Tryz.underlying195 (.agg #[.int .i64 0, .int .i64 0]) 16 infoIns rfl (by decide) (by omega) zIns zIns_O (by omega) ?_; rintro g w1 hg ho hb hz; have HG := Lib.hid hg; clear hg)
  go_loopw [4] (fun i wr => ∃ k : Nat, k ≤ l.length ∧ i = .int .i64 k ∧ kIns.OwnF 305 wr (.slice (some ⟨g, 0, none⟩) l.length l.length) (l.take k ++ List.replicate (l.length - k) zIns) (List.replicate l.length []) ∧ Below w.heap.size w wr) (fun i _ => l.length - (intOf i).toNat)
  case atStart => exact ⟨0, by omega, rfl, by simpa using ho, hb⟩
  case round =>
    obtain ⟨k, hk, rfl, ho, hb⟩ := hrel
    by_cases hlt : k < l.length
    · obtain ⟨x, hx⟩ := get_exT l k hlt
      obtain ⟨ad, rfl, q0, q1⟩ := kIns_at (hr.below hb) k x hx
      have hp := part_set l zIns x k hx
      have hle : k < (l.take k ++ List.replicate (l.length - k) zIns).length := by simp; omega
      have hlen : (l.take k ++ List.replicate (l.length - k) zIns).length = l.length := by simp; omega
      obtain ⟨u0, s0⟩ := ho.cell (k * 2) (by rw [hlen]; show _ < l.length * 2; omega)
      obtain ⟨u1, s1⟩ := ho.cell (k * 2 + 1) (by rw [hlen]; show _ < l.length * 2; omega)
      have f0 := ho.free (k * 2)
      have f1 := ho.free (k * 2 + 1)
      have HP := Lib.hid hp
      have HX := Lib.hid hx
      have HL := Lib.hid hlen
      clear hp hx hlen
      go_wp2_with (go_at_call 285; refine (toIns _ _ _).mono ?_; rintro e w' ⟨rfl, hb2⟩; have ho2 := ho.below hb2; obtain ⟨u0, s0⟩ := ho2.cell (k * 2) (by rw [HL.out]; show _ < l.length * 2; omega); obtain ⟨u1, s1⟩ := ho2.cell (k * 2 + 1) (by rw [HL.out]; show _ < l.length * 2; omega); have f0 := ho2.free (k * 2); have f1 := ho2.free (k * 2 + 1))
      go_roundw
      case rel =>
        refine ⟨k + 1, by omega, by go_num, ?_, ?_⟩
        · have h1 := ho2.put k hle [.int .i64 x.op, .int .i64 x.a] x [] (kIns_O _ x) (by simp) (by rw [rep_flat]; simp)
          rw [HP.out, rep_set] at h1
          exact h1
        · have hg0 : w.heap.size ≤ g := Nat.le_of_eq HG.out.symm
          exact bl9
      case measure => simp [intOf]; omega
    · obtain rfl : k = l.length := by omega
      go_wp2
      go_ret
      have h1 := ho.own
      rw [List.take_length, Nat.sub_self, List.replicate_zero, List.append_nil, rep_flat] at h1
      exact ⟨_, _, rfl, h1, by simp [Value.ownBlock], by simp [Value.ownBlock]; rw [HG.out]; exact Nat.le_refl _, hb⟩
theorem toFunc (p q : Int) (A : Option Addr) (c : Nat) (l : List DIns) (w : World) (hr : kIns.Row w A l.length l) (hm : l.length ≤ 1048576) : Calls Tryz.prog 130 #[.agg #[.int .i64 p, .int .i64 q, .slice A l.length c]] w fun en w' => ∃ v F, en = .returned (.agg #[.int .i64 p, .int .i64 q, v]) ∧ kIns.Own 305 w' v l F ∧ F.Nodup ∧ (∀ g ∈ F, w.heap.size ≤ g) ∧ Below w.heap.size w w' := by
  go_enter Tryz.func130, Tryz.ntmps130
  go_wp2_with fail
  refine (toInsS A c l _ ?_ hm).mono ?_
  · exact hr.below bl9
  rintro e w' ⟨v, F, rfl, ho, hnd, hF, hb⟩
  obtain ⟨Av, cv, rfl, _, _⟩ := ho.row
  obtain ⟨hc, hf⟩ := bcell hb
  have hz := hb.size
  simp at hz
  have hF2 : ∀ g ∈ F, w.heap.size + 3 ≤ g := fun g hg => by have := hF g hg; simp at this; omega
  go_wp2
  refine bodyPost_ret (v := .agg #[.int .i64 p, .int .i64 q, .slice Av l.length cv]) (by simp [results, Tryz.results130, go_sem, *]) rfl ⟨_, F, rfl, ?_, hnd, fun g hg => by have := hF2 g hg; omega, bl9⟩
  repeat (refine Knd.Own.set_old ?_ hF2 (by dsimp only; omega) _)
  exact ho
theorem infoFunc : (Tryz.prog.info? 197).map (fun i => (i.zero, i.size, i.bytes)) = some (some (.agg #[.int .i64 0, .int .i64 0, .slice none 0 0]), 3, 40) := by kernel_rfl
theorem kFunc_O {w : World} {x : DFunc} {v : Value} {F : List Nat} (h : kIns.Own 305 w v x.code F) : kFunc.O w x [.int .i64 x.params, .int .i64 x.locals, v] F :=
  ⟨[.int .i64 x.params], [.int .i64 x.locals, v], [], F, rfl, rfl, ⟨rfl, rfl⟩, ⟨[.int .i64 x.locals], [v], [], F, rfl, rfl, ⟨rfl, rfl⟩, ⟨v, rfl, h⟩⟩⟩
theorem zFunc_O (w : World) : kFunc.O w zFunc [.int .i64 0, .int .i64 0, .slice none 0 0] [] := kFunc_O (Knd.Own.nil _ _ _)
set_option maxHeartbeats 1000000 in
theorem toFuncS (A : Option Addr) (c : Nat) (l : List DFunc) (w : World) (hr : kFunc.Row w A l.length l) (hm : l.length ≤ 1048576) (hv : ∀ x ∈ l, x.code.length ≤ 1048576) : Calls Tryz.prog 61 #[.slice A l.length c] w (NewRow kFunc 197 l w) := by
  go_enter Tryz.func61, Tryz.ntmps61
  go_wp2_with (refine Knd.wp_made kFunc rfl _ _ _ rfl l.length rfl rfl 197 Tryz.underlying34 (.agg #[.int .i64 0, .int .i64 0, .slice none 0 0]) 40 infoFunc rfl (by decide) (by omega) zFunc zFunc_O (by omega) ?_; rintro g w1 hg ho hb hz; have HG := Lib.hid hg; clear hg)
  have hg0 : w.heap.size ≤ g := Nat.le_of_eq HG.out.symm
  go_loopw [4] (fun i wr => ∃ (k : Nat) (Fs : List (List Nat)), k ≤ l.length ∧ i = .int .i64 k ∧ kFunc.OwnF 197 wr (.slice (some ⟨g, 0, none⟩) l.length l.length) (l.take k ++ List.replicate (l.length - k) zFunc) Fs ∧ Hid ((g :: Fs.flatten).Nodup ∧ (∀ q ∈ Fs.flatten, w.heap.size ≤ q)) ∧ Below w.heap.size w wr) (fun i _ => l.length - (intOf i).toNat)
  case atStart => exact ⟨0, List.replicate l.length [], by omega, rfl, by simpa using ho, ⟨by simp [rep_flat], by simp [rep_flat]⟩, hb⟩
  case round =>
    obtain ⟨k, Fs, hk, rfl, ho, hN, hb⟩ := hrel
    by_cases hlt : k < l.length
    · obtain ⟨x, hx⟩ := get_exT l k hlt
      obtain ⟨ad, A2, c2, rfl, q0, q1, q2, hl2, hr2⟩ := kFunc_at (hr.below hb) k x hx
      have hxm := hv x (List.mem_of_getElem? hx)
      have hp := part_set l zFunc x k hx
      have hle : k < (l.take k ++ List.replicate (l.length - k) zFunc).length := by simp; omega
      have hlen : (l.take k ++ List.replicate (l.length - k) zFunc).length = l.length := by simp; omega
      have hFl : Fs.length = l.length := ho.len.trans hlen
      have HP := Lib.hid hp
      have HX := Lib.hid hx
      have HL := Lib.hid hlen
      have HF := Lib.hid hFl
      clear hp hx hlen hFl
      have C := toFunc x.params x.locals A2 c2 x.code wr hr2 hxm
      go_wp2_with fail
      refine C.mono ?_
      rintro e w' ⟨v, F, rfl, hov, hnd, hFn, hb2⟩
      obtain ⟨Av, cv, rfl, _, _⟩ := hov.row
      have ho2 := ho.below hb2
      obtain ⟨u0, s0⟩ := ho2.cell (k * 3) (by rw [HL.out]; show _ < l.length * 3; omega)
      obtain ⟨u1, s1⟩ := ho2.cell (k * 3 + 1) (by rw [HL.out]; show _ < l.length * 3; omega)
      obtain ⟨u2, s2⟩ := ho2.cell (k * 3 + 2) (by rw [HL.out]; show _ < l.length * 3; omega)
      have f0 := ho2.free (k * 3)
      have f1 := ho2.free (k * 3 + 1)
      have f2 := ho2.free (k * 3 + 2)
      go_wp2
      go_roundw
      case rel =>
        have hlt2 : ∀ q ∈ g :: Fs.flatten, q < wr.heap.size := fun q hq => ho.lt q (by simpa [Value.ownBlock] using hq)
        have hd : ∀ q ∈ F, q ∉ g :: Fs.flatten := fun q hq hm => by have := hlt2 q hm; have := hFn q hq; omega
        have h1 := ho2.put k hle [.int .i64 x.params, .int .i64 x.locals, .slice Av x.code.length cv] x F (kFunc_O hov) (fun h => hd g h (by simp)) (List.nodup_cons.1 hN.out.1).1
        rw [HP.out] at h1
        refine ⟨k + 1, Fs.set k F, by omega, by go_num, h1, ⟨nodup_put (by rw [HF.out]; exact hlt) hN.out.1 hnd hd, fun q hq => ?_⟩, ?_⟩
        · rcases mem_put (by rw [HF.out]; exact hlt) hq with hq | hq
          · have := hFn q hq
            have := hb.size
            omega
          · exact hN.out.2 q hq
        · exact bl9
      case measure => simp [intOf]; omega
    · obtain rfl : k = l.length := by omega
      go_wp2
      go_ret
      have h1 := ho.own
      rw [List.take_length, Nat.sub_self, List.replicate_zero, List.append_nil] at h1
      exact ⟨_, _, rfl, h1, hN.out.1, fun q hq => by
        rcases List.mem_cons.1 hq with rfl | hq
        · exact hg0
        · exact hN.out.2 q hq, hb⟩
theorem infoStr : (Tryz.prog.info? 9).map (fun i => (i.zero, i.size, i.bytes)) = some (some (.string (⟨#[]⟩ : ByteArray)), 1, 16) := by kernel_rfl
set_option maxHeartbeats 1000000 in
theorem toStringS (A : Option Addr) (c : Nat) (l : List ByteArray) (w : World) (hr : Knd.str.Row w A l.length l) (hm : l.length ≤ 1048576) : Calls Tryz.prog 60 #[.slice A l.length c] w (NewRow Knd.str 9 l w) := by
  go_enter Tryz.func60, Tryz.ntmps60
  go_wp2_with (refine Knd.wp_made Knd.str rfl _ _ _ rfl l.length rfl rfl 9 Tryz.underlying22 (.string (⟨#[]⟩ : ByteArray)) 16 infoStr rfl (by decide) (by omega) (⟨#[]⟩ : ByteArray) (fun _ => ⟨rfl, rfl⟩) (by omega) ?_; rintro g w1 hg ho hb hz; have HG := Lib.hid hg; clear hg)
  have hg0 : w.heap.size ≤ g := Nat.le_of_eq HG.out.symm
  go_loopw [4] (fun i wr => ∃ k : Nat, k ≤ l.length ∧ i = .int .i64 k ∧ Knd.str.OwnF 9 wr (.slice (some ⟨g, 0, none⟩) l.length l.length) (l.take k ++ List.replicate (l.length - k) (⟨#[]⟩ : ByteArray)) (List.replicate l.length []) ∧ Below w.heap.size w wr) (fun i _ => l.length - (intOf i).toNat)
  case atStart => exact ⟨0, by omega, rfl, by simpa using ho, hb⟩
  case round =>
    obtain ⟨k, hk, rfl, ho, hb⟩ := hrel
    by_cases hlt : k < l.length
    · obtain ⟨x, hx⟩ := get_exT l k hlt
      obtain ⟨ad, cs, rfl, hK, q⟩ := (hr.below hb).get k x hx
      obtain rfl : cs = [.string x] := hK
      have q0 : wr.cell? (ad.add k) = some (.string x) := by have := q 0 _ rfl; simpa [Knd.str, Knd.scalar] using this
      clear q
      have hp := part_set l (⟨#[]⟩ : ByteArray) x k hx
      have hle : k < (l.take k ++ List.replicate (l.length - k) (⟨#[]⟩ : ByteArray)).length := by simp; omega
      have hlen : (l.take k ++ List.replicate (l.length - k) (⟨#[]⟩ : ByteArray)).length = l.length := by simp; omega
      obtain ⟨u0, s0⟩ := ho.cell k (by rw [hlen]; show _ < l.length * 1; omega)
      have f0 := ho.free k
      have HP := Lib.hid hp
      have HX := Lib.hid hx
      clear hp hx hlen
      go_wp2
      go_roundw
      case rel =>
        refine ⟨k + 1, by omega, by go_num, ?_, bl9⟩
        have h1 := ho.put k hle [.string x] x [] ⟨rfl, rfl⟩ (by simp) (by rw [rep_flat]; simp)
        rw [HP.out, rep_set] at h1
        have e : k * Knd.str.sz = k := Nat.mul_one k
        rw [e] at h1
        exact h1
      case measure => simp [intOf]; omega
    · obtain rfl : k = l.length := by omega
      go_wp2
      go_ret
      have h1 := ho.own
      rw [List.take_length, Nat.sub_self, List.replicate_zero, List.append_nil, rep_flat] at h1
      exact ⟨_, _, rfl, h1, by simp [Value.ownBlock], by simp [Value.ownBlock]; rw [HG.out]; exact Nat.le_refl _, hb⟩
theorem toModule (A B : Option Addr) (c d : Nat) (t : List ByteArray) (l : List DFunc) (w : World) (ht : Knd.str.Row w A t.length t) (hr : kFunc.Row w B l.length l) (htm : t.length ≤ 1048576) (hm : l.length ≤ 1048576) (hv : ∀ x ∈ l, x.code.length ≤ 1048576) :
    Calls Tryz.prog 14 #[.agg #[.slice A t.length c, .slice B l.length d]] w fun en w' => ∃ v u F G, en = .returned (.agg #[v, u]) ∧ Knd.str.Own 9 w' v t F ∧ kFunc.Own 197 w' u l G ∧ (F ++ G).Nodup ∧ (∀ g ∈ F ++ G, w.heap.size ≤ g) ∧ Below w.heap.size w w' := by
  go_enter Tryz.func14, Tryz.ntmps14
  go_wp2_with fail
  refine (toStringS A c t _ (ht.below bl9) htm).mono ?_
  rintro e w1 ⟨v, F, rfl, ho, hnd, hF, hb⟩
  obtain ⟨Av, cv, rfl, _, _⟩ := ho.row
  obtain ⟨hc, hf⟩ := bcell hb
  have hz := hb.size
  simp at hz
  have y0 : w.heap.size < w1.heap.size := by omega
  have y1 : w.heap.size + 1 < w1.heap.size := by omega
  have y2 : w.heap.size + 1 + 1 < w1.heap.size := by omega
  have hF2 : ∀ g ∈ F, w.heap.size + 3 ≤ g := fun g hg => by have := hF g hg; simp at this; omega
  have hW : Below w.heap.size w w1 := bl9
  have hFl := ho.lt
  go_wp2_with fail
  refine (toFuncS B d l _ (hr.below bl9) hm hv).mono ?_
  rintro e w2 ⟨u, G, rfl, ho2, hnd2, hG, hb2⟩
  obtain ⟨Au, cu, rfl, _, _⟩ := ho2.row
  obtain ⟨hc2, hf2⟩ := bcell hb2
  have hz2 := hb2.size
  simp at hz2
  have z0 : w.heap.size < w2.heap.size := by omega
  have z1 : w.heap.size + 1 < w2.heap.size := by omega
  have z2 : w.heap.size + 1 + 1 < w2.heap.size := by omega
  have hG2 : ∀ g ∈ G, w1.heap.size ≤ g := fun g hg => by have := hG g hg; simpa using this
  have hG3 : ∀ g ∈ G, w.heap.size + 3 ≤ g := fun g hg => by have := hG2 g hg; omega
  have ho1 : Knd.str.Own 9 w2 (.slice Av t.length cv) t F := by
    refine Knd.Own.below ?_ hb2
    repeat (refine Knd.Own.set_old ?_ hF2 (by dsimp only; omega) _)
    exact ho
  go_wp2
  refine bodyPost_ret (v := .agg #[.slice Av t.length cv, .slice Au l.length cu]) (by simp [results, Tryz.results14, go_sem, *]) rfl ⟨_, _, F, G, rfl, ?_, ?_, ?_, fun g hg => ?_, bl9⟩
  · repeat (refine Knd.Own.set_old ?_ hF2 (by dsimp only; omega) _)
    exact ho1
  · repeat (refine Knd.Own.set_old ?_ hG3 (by dsimp only; omega) _)
    exact ho2
  · rw [List.nodup_append]
    exact ⟨hnd, hnd2, fun a ha b hb e => by subst e; have := hFl a ha; have := hG2 a hb; omega⟩
  · rcases List.mem_append.1 hg with hg | hg
    · have := hF2 g hg
      omega
    · have := hG3 g hg
      omega
theorem get_exE {α : Type} (l : List α) (k : Nat) (h : k < l.length) : ∃ x, l[k]? = some x := ⟨l[k], List.getElem?_eq_getElem h⟩
theorem eqIns (a b : Int) (w : World) : Calls Tryz.prog 313 #[.agg #[.int .i64 a, .int .i64 b], .agg #[.int .i64 a, .int .i64 b]] w fun e w' => e = .returned (.bool true) ∧ Below w.heap.size w w' := by
  go_enter Tryz.func313, Tryz.ntmps313
  go_wp2
  go_ret
  exact ⟨rfl, bl9⟩
theorem kept {w w' : World} {p : Addr} {v : Value} (hb : Below w.heap.size w w') (h : w.cell? p = some v) : w'.cell? p = some v := cell_below hb (World.block_lt_of_cell? w p h) h
set_option maxHeartbeats 1000000 in
theorem eqInsS (A B : Option Addr) (c c' : Nat) (l : List DIns) (w : World) (hr : kIns.Row w A l.length l) (hr' : kIns.Row w B l.length l) : Calls Tryz.prog 227 #[.slice A l.length c, .slice B l.length c'] w fun e w' => e = .returned (.bool true) ∧ Below w.heap.size w w' := by
  have hm := hr.2.1
  go_enter Tryz.func227, Tryz.ntmps227
  go_wp2
  go_loopw [5] (fun i wr => ∃ k : Nat, k ≤ l.length ∧ i = .int .i64 k ∧ Below w.heap.size w wr) (fun i _ => l.length - (intOf i).toNat)
  case atStart => exact ⟨0, by omega, rfl, Below.refl _ _⟩
  case round =>
    obtain ⟨k, hk, rfl, hb⟩ := hrel
    by_cases hlt : k < l.length
    · obtain ⟨x, hx⟩ := get_exE l k hlt
      obtain ⟨ad, rfl, q0, q1⟩ := kIns_at (hr.below hb) k x hx
      obtain ⟨ad', rfl, r0, r1⟩ := kIns_at (hr'.below hb) k x hx
      clear hx
      go_wp2
      go_region_held3 (fun w' => w'.cell? (ad.add (k * 2)) = some (.int .i64 x.op) ∧ w'.cell? ⟨(ad.add (k * 2)).block, (ad.add (k * 2)).off + 1, none⟩ = some (.int .i64 x.a) ∧ w'.cell? (ad'.add (k * 2)) = some (.int .i64 x.op) ∧ w'.cell? ⟨(ad'.add (k * 2)).block, (ad'.add (k * 2)).off + 1, none⟩ = some (.int .i64 x.a) ∧ Below w.heap.size w w') ((refine ⟨?_, ?_, ?_, ?_, ?_⟩ <;> first | assumption | (go_keep; done) | exact bl9)) (first | (go_at_call 313; refine (eqIns _ _ _).mono ?_; rintro e w' ⟨rfl, hb2⟩; have q0 := kept hb2 q0; have q1 := kept hb2 q1; have r0 := kept hb2 r0; have r1 := kept hb2 r1))
      go_wp2
      go_roundw
      case rel => exact ⟨k + 1, by omega, by go_num, bl9⟩
      case measure => simp [intOf]; omega
    · go_wp2
      go_ret
      exact ⟨rfl, hb⟩
set_option maxHeartbeats 1000000 in
theorem eqStringS (A B : Option Addr) (c c' : Nat) (l : List ByteArray) (w : World) (hr : Knd.str.Row w A l.length l) (hr' : Knd.str.Row w B l.length l) : Calls Tryz.prog 67 #[.slice A l.length c, .slice B l.length c'] w fun e w' => e = .returned (.bool true) ∧ Below w.heap.size w w' := by
  have hm := hr.2.1
  go_enter Tryz.func67, Tryz.ntmps67
  go_wp2
  go_loopw [5] (fun i wr => ∃ k : Nat, k ≤ l.length ∧ i = .int .i64 k ∧ Below w.heap.size w wr) (fun i _ => l.length - (intOf i).toNat)
  case atStart => exact ⟨0, by omega, rfl, Below.refl _ _⟩
  case round =>
    obtain ⟨k, hk, rfl, hb⟩ := hrel
    by_cases hlt : k < l.length
    · obtain ⟨x, hx⟩ := get_exE l k hlt
      obtain ⟨ad, cs, rfl, hK, q⟩ := (hr.below hb).get k x hx
      obtain ⟨ad', cs', rfl, hK', r⟩ := (hr'.below hb).get k x hx
      obtain rfl : cs = [.string x] := hK
      obtain rfl : cs' = [.string x] := hK'
      have q0 : wr.cell? (ad.add k) = some (.string x) := by have := q 0 _ rfl; simpa [Knd.str, Knd.scalar] using this
      have r0 : wr.cell? (ad'.add k) = some (.string x) := by have := r 0 _ rfl; simpa [Knd.str, Knd.scalar] using this
      clear hx q r
      go_wp2
      go_region_held3 (fun w' => w'.cell? (ad.add k) = some (.string x) ∧ w'.cell? (ad'.add k) = some (.string x) ∧ Below w.heap.size w w') ((refine ⟨?_, ?_, ?_⟩ <;> first | assumption | (go_keep; done) | exact bl9)) (first | fail)
      go_wp2
      go_roundw
      case rel => exact ⟨k + 1, by omega, by go_num, bl9⟩
      case measure => simp [intOf]; omega
    · go_wp2
      go_ret
      exact ⟨rfl, hb⟩
theorem eqFunc (p q : Int) (A B : Option Addr) (c c' : Nat) (l : List DIns) (w : World) (hr : kIns.Row w A l.length l) (hr' : kIns.Row w B l.length l) : Calls Tryz.prog 137 #[.agg #[.int .i64 p, .int .i64 q, .slice A l.length c], .agg #[.int .i64 p, .int .i64 q, .slice B l.length c']] w fun e w' => e = .returned (.bool true) ∧ Below w.heap.size w w' := by
  go_enter Tryz.func137, Tryz.ntmps137
  go_wp2_with fail
  refine (eqInsS A B c c' l _ (hr.below bl9) (hr'.below bl9)).mono ?_
  rintro e w' ⟨rfl, hb⟩
  go_wp2
  go_ret
  exact ⟨rfl, bl9⟩
set_option maxHeartbeats 1000000 in
theorem eqFuncS (A B : Option Addr) (c c' : Nat) (l : List DFunc) (w : World) (hr : kFunc.Row w A l.length l) (hr' : kFunc.Row w B l.length l) : Calls Tryz.prog 68 #[.slice A l.length c, .slice B l.length c'] w fun e w' => e = .returned (.bool true) ∧ Below w.heap.size w w' := by
  have hm := hr.2.1
  go_enter Tryz.func68, Tryz.ntmps68
  go_wp2
  go_loopw [5] (fun i wr => ∃ k : Nat, k ≤ l.length ∧ i = .int .i64 k ∧ Below w.heap.size w wr) (fun i _ => l.length - (intOf i).toNat)
  case atStart => exact ⟨0, by omega, rfl, Below.refl _ _⟩
  case round =>
    obtain ⟨k, hk, rfl, hb⟩ := hrel
    by_cases hlt : k < l.length
    · obtain ⟨x, hx⟩ := get_exE l k hlt
      obtain ⟨ad, A2, c2, rfl, q0, q1, q2, hl2, hr2⟩ := kFunc_at (hr.below hb) k x hx
      obtain ⟨ad', A3, c3, rfl, r0, r1, r2, hl3, hr3⟩ := kFunc_at (hr'.below hb) k x hx
      clear hx
      go_wp2
      go_region_held3 (fun w' => w'.cell? (ad.add (k * 3)) = some (.int .i64 x.params) ∧ w'.cell? ⟨(ad.add (k * 3)).block, (ad.add (k * 3)).off + 1, none⟩ = some (.int .i64 x.locals) ∧ w'.cell? ⟨(ad.add (k * 3)).block, (ad.add (k * 3)).off + 2, none⟩ = some (.slice A2 x.code.length c2) ∧ w'.cell? (ad'.add (k * 3)) = some (.int .i64 x.params) ∧ w'.cell? ⟨(ad'.add (k * 3)).block, (ad'.add (k * 3)).off + 1, none⟩ = some (.int .i64 x.locals) ∧ w'.cell? ⟨(ad'.add (k * 3)).block, (ad'.add (k * 3)).off + 2, none⟩ = some (.slice A3 x.code.length c3) ∧ Below wr.heap.size wr w') ((refine ⟨?_, ?_, ?_, ?_, ?_, ?_, ?_⟩ <;> first | assumption | (go_keep; done) | exact bl9)) (first | (go_at_call 137; refine (eqFunc _ _ _ _ _ _ _ _ (hr2.below bl9) (hr3.below bl9)).mono ?_; rintro e w' ⟨rfl, hb2⟩; have q0 := kept hb2 q0; have q1 := kept hb2 q1; have q2 := kept hb2 q2; have r0 := kept hb2 r0; have r1 := kept hb2 r1; have r2 := kept hb2 r2; have hW2 : Below wr.heap.size wr w' := bl9))
      go_wp2
      go_roundw
      case rel => exact ⟨k + 1, by omega, by go_num, bl9⟩
      case measure => simp [intOf]; omega
    · go_wp2
      go_ret
      exact ⟨rfl, hb⟩
theorem eqModule (A B A' B' : Option Addr) (c d c' d' : Nat) (t : List ByteArray) (l : List DFunc) (w : World) (ht : Knd.str.Row w A t.length t) (hr : kFunc.Row w B l.length l) (ht' : Knd.str.Row w A' t.length t) (hr' : kFunc.Row w B' l.length l) : Calls Tryz.prog 18 #[.agg #[.slice A t.length c, .slice B l.length d], .agg #[.slice A' t.length c', .slice B' l.length d']] w fun e w' => e = .returned (.bool true) ∧ Below w.heap.size w w' := by
  go_enter Tryz.func18, Tryz.ntmps18
  go_wp2_with fail
  refine (eqStringS A A' c c' t _ (ht.below bl9) (ht'.below bl9)).mono ?_
  rintro e w' ⟨rfl, hb⟩
  obtain ⟨hc, hf⟩ := bcell hb
  have hz := hb.size
  simp at hz
  have y0 : w.heap.size < w'.heap.size := by omega
  have y1 : w.heap.size + 1 < w'.heap.size := by omega
  have hW : Below w.heap.size w w' := bl9
  go_wp2_with fail
  refine (eqFuncS B B' d d' l _ (hr.below bl9) (hr'.below bl9)).mono ?_
  rintro e w2 ⟨rfl, hb2⟩
  go_wp2
  go_ret
  exact ⟨rfl, bl9⟩
def btw (a b c : Int) : Bool := decide (b ≤ a) && decide (a ≤ c)
theorem btw_true {a b c : Int} : btw a b c = true ↔ b ≤ a ∧ a ≤ c := by simp [btw]
theorem btw_false {a b c : Int} : btw a b c = false ↔ ¬ (b ≤ a ∧ a ≤ c) := by
  rw [← btw_true]
  cases btw a b c <;> simp
theorem inRange {a b c : Int} {r : Bool} (w : World) (h : btw a b c = r) : Calls Tryz.prog 153 #[.int .i64 a, .int .i64 b, .int .i64 c] w fun e w' => e = .returned (.bool r) ∧ w = w' := by
  subst h
  by_cases h1 : b ≤ a
  · go_enter Tryz.func153, Tryz.ntmps153
    go_wp2
    go_ret
    exact ⟨by simp [btw, h1], rfl⟩
  · go_enter Tryz.func153, Tryz.ntmps153
    go_wp2
    go_ret
    exact ⟨by simp [btw, h1]; omega, rfl⟩
theorem isNum {n : Int} {r : Bool} (w : World) (h : btw n (-1000000000) 1000000000 = r) : Calls Tryz.prog 327 #[.int .i64 n] w fun e w' => e = .returned (.bool r) ∧ w = w' := by
  go_enter Tryz.func327, Tryz.ntmps327
  go_wp2_with (go_at_call 153; refine (inRange _ h).mono ?_; rintro e w' ⟨rfl, rfl⟩)
  go_ret
  exact ⟨rfl, rfl⟩
theorem isPlace {n m : Int} {r : Bool} (w : World) (h : btw n 0 (m - 1) = r) (h1 : -1000000000000000000 ≤ m) (h2 : m ≤ 9223372036854775807) : Calls Tryz.prog 122 #[.int .i64 n, .int .i64 m] w fun e w' => e = .returned (.bool r) ∧ w = w' := by
  go_enter Tryz.func122, Tryz.ntmps122
  go_wp2_with (go_at_call 153; refine (inRange _ h).mono ?_; rintro e w' ⟨rfl, rfl⟩)
  go_ret
  exact ⟨rfl, rfl⟩
theorem between {a b c : Int} {r : Bool} (w : World) (h : btw a b c = r) : Calls Tryz.prog 121 #[.int .i64 a, .int .i64 b, .int .i64 c] w fun e w' => e = .returned (.bool r) ∧ w = w' := by
  subst h
  by_cases h1 : b ≤ a
  · go_enter Tryz.func121, Tryz.ntmps121
    go_wp2
    go_ret
    exact ⟨by simp [btw, h1], rfl⟩
  · go_enter Tryz.func121, Tryz.ntmps121
    go_wp2
    go_ret
    exact ⟨by simp [btw, h1]; omega, rfl⟩
def uses (l : List DFunc) (op a : Int) : Int × Int :=
  if 1 ≤ op ∧ op ≤ 6 ∨ op = 20 then (0, 1) else if op = 7 ∨ op = 9 ∨ op = 18 ∨ op = 19 ∨ op = 25 ∨ op = 26 then (1, 0) else if op = 8 then (1, 2) else if op = 10 then (2, 2) else if 11 ≤ op ∧ op ≤ 15 then (2, 1)
  else if op = 16 ∨ op = 21 then (1, 1) else if op = 22 then (2, 0) else if op = 23 ∧ 0 ≤ a ∧ a ≤ 6 then (a + 1, 1) else if op = 24 ∧ 0 ≤ a ∧ a < l.length then ((l.getD a.toNat zFunc).params, 1) else (0, 0)
theorem ret_uses {l : List DFunc} {op a x y : Int} (h : uses l op a = (x, y)) : Ending.returned (.tuple #[.int .i64 x, .int .i64 y]) = .returned (.tuple #[.int .i64 (uses l op a).1, .int .i64 (uses l op a).2]) := by rw [h]
theorem uses_23n (l : List DFunc) (a : Int) (h : ¬ (0 ≤ a ∧ a ≤ 6)) : uses l 23 a = (0, 0) := by
  unfold uses
  rw [if_neg (by omega), if_neg (by omega), if_neg (by omega), if_neg (by omega), if_neg (by omega), if_neg (by omega), if_neg (by omega), if_neg (by omega), if_neg (by omega)]
theorem get_exU {α : Type} (l : List α) (k : Nat) (h : k < l.length) : ∃ x, l[k]? = some x := ⟨l[k], List.getElem?_eq_getElem h⟩
theorem uses_24 (l : List DFunc) (k : Nat) (x : DFunc) (hx : l[k]? = some x) : uses l 24 k = (x.params, 1) := by
  have hk : k < l.length := (List.getElem?_eq_some_iff.1 hx).1
  unfold uses
  rw [if_neg (by omega), if_neg (by omega), if_neg (by omega), if_neg (by omega), if_neg (by omega), if_neg (by omega), if_neg (by omega), if_neg (by omega), if_pos (by omega)]
  simp [List.getD_eq_getElem?_getD, hx]
theorem uses_24n (l : List DFunc) (a : Int) (h : ¬ (0 ≤ a ∧ a ≤ (l.length : Int) - 1)) : uses l 24 a = (0, 0) := by
  unfold uses
  rw [if_neg (by omega), if_neg (by omega), if_neg (by omega), if_neg (by omega), if_neg (by omega), if_neg (by omega), if_neg (by omega), if_neg (by omega), if_neg (by omega)]

set_option maxHeartbeats 4000000 in
theorem usesI (A B : Option Addr) (c d : Nat) (t : List ByteArray) (l : List DFunc) (op a : Int) (w : World) (hr : kFunc.Row w B l.length l) (hm : l.length ≤ 1048576) : Calls Tryz.prog 321 #[.agg #[.slice A t.length c, .slice B l.length d], .agg #[.int .i64 op, .int .i64 a]] w fun e w' => e = .returned (.tuple #[.int .i64 (uses l op a).1, .int .i64 (uses l op a).2]) ∧ Below w.heap.size w w' := by
  have hcase : (op = 1 ∨ op = 2 ∨ op = 3 ∨ op = 4 ∨ op = 5 ∨ op = 6 ∨ op = 7 ∨ op = 8 ∨ op = 9 ∨ op = 10 ∨ op = 11 ∨ op = 12 ∨ op = 13 ∨ op = 14 ∨ op = 15 ∨ op = 16 ∨ op = 17 ∨ op = 18 ∨ op = 19 ∨ op = 20 ∨ op = 21 ∨ op = 22 ∨ op = 25 ∨ op = 26) ∨ op = 23 ∨ op = 24 ∨ (op < 1 ∨ 26 < op) := by omega
  rcases hcase with hc | rfl | rfl | ho
  · rcases hc with rfl | rfl | rfl | rfl | rfl | rfl | rfl | rfl | rfl | rfl | rfl | rfl | rfl | rfl | rfl | rfl | rfl | rfl | rfl | rfl | rfl | rfl | rfl | rfl
    all_goals
      go_enter Tryz.func321, Tryz.ntmps321
      go_wp2_with (first | (go_at_call 153; refine (inRange (r := true) _ (by first | decide | assumption)).mono ?_; rintro e w' ⟨rfl, rfl⟩) | (go_at_call 153; refine (inRange (r := false) _ (by first | decide | assumption)).mono ?_; rintro e w' ⟨rfl, rfl⟩) | (go_at_call 122; refine (isPlace _ (by assumption) (by omega) (by omega)).mono ?_; rintro e w' ⟨rfl, rfl⟩))
      go_ret2
      exact ⟨by simp [uses], bl9⟩
  · cases ha : btw a 0 6
    · have HA := Lib.hid (btw_false.1 ha)
      go_enter Tryz.func321, Tryz.ntmps321
      go_wp2_with (first | (go_at_call 153; refine (inRange (r := true) _ (by first | decide | assumption)).mono ?_; rintro e w' ⟨rfl, rfl⟩) | (go_at_call 153; refine (inRange (r := false) _ (by first | decide | assumption)).mono ?_; rintro e w' ⟨rfl, rfl⟩) | (go_at_call 122; refine (isPlace _ (by assumption) (by omega) (by omega)).mono ?_; rintro e w' ⟨rfl, rfl⟩))
      go_ret2
      exact ⟨ret_uses (uses_23n _ _ HA.out), bl9⟩
    · have HA := Lib.hid (btw_true.1 ha)
      have b1 : 0 ≤ a := (btw_true.1 ha).1
      have b2 : a ≤ 6 := (btw_true.1 ha).2
      go_enter Tryz.func321, Tryz.ntmps321
      go_wp2_with (first | (go_at_call 153; refine (inRange (r := true) _ (by first | decide | assumption)).mono ?_; rintro e w' ⟨rfl, rfl⟩) | (go_at_call 153; refine (inRange (r := false) _ (by first | decide | assumption)).mono ?_; rintro e w' ⟨rfl, rfl⟩) | (go_at_call 122; refine (isPlace _ (by assumption) (by omega) (by omega)).mono ?_; rintro e w' ⟨rfl, rfl⟩))
      go_ret2
      exact ⟨by simp [uses, HA.out], bl9⟩
  · cases ha : btw a 0 ((l.length : Int) - 1)
    · have HA := Lib.hid (btw_false.1 ha)
      go_enter Tryz.func321, Tryz.ntmps321
      go_wp2_with (first | (go_at_call 153; refine (inRange (r := true) _ (by first | decide | assumption)).mono ?_; rintro e w' ⟨rfl, rfl⟩) | (go_at_call 153; refine (inRange (r := false) _ (by first | decide | assumption)).mono ?_; rintro e w' ⟨rfl, rfl⟩) | (go_at_call 122; refine (isPlace _ (by assumption) (by omega) (by omega)).mono ?_; rintro e w' ⟨rfl, rfl⟩))
      go_ret2
      exact ⟨ret_uses (uses_24n _ _ HA.out), bl9⟩
    · obtain ⟨b1, b2⟩ := btw_true.1 ha
      obtain ⟨k, rfl⟩ := Int.eq_ofNat_of_zero_le b1
      obtain ⟨x, hx⟩ := get_exU l k (by omega)
      have HX := Lib.hid (uses_24 l k x hx)
      obtain ⟨ad, A2, c2, rfl, q0, q1, q2, _, _⟩ := kFunc_at hr k x hx
      have h0 := World.block_lt_of_cell? w _ q0
      have bk : (k : Int) < l.length := by omega
      clear hx b1 b2
      go_enter Tryz.func321, Tryz.ntmps321
      go_wp2_with (first | (go_at_call 153; refine (inRange (r := true) _ (by first | decide | assumption)).mono ?_; rintro e w' ⟨rfl, rfl⟩) | (go_at_call 153; refine (inRange (r := false) _ (by first | decide | assumption)).mono ?_; rintro e w' ⟨rfl, rfl⟩) | (go_at_call 122; refine (isPlace _ (by assumption) (by omega) (by omega)).mono ?_; rintro e w' ⟨rfl, rfl⟩))
      go_ret2
      exact ⟨ret_uses HX.out, bl9⟩
  · have e : uses l op a = (0, 0) := by
      unfold uses
      rw [if_neg (by omega), if_neg (by omega), if_neg (by omega), if_neg (by omega), if_neg (by omega), if_neg (by omega), if_neg (by omega), if_neg (by omega), if_neg (by omega)]
    have HE := Lib.hid e
    have n1 : btw op 1 6 = false := btw_false.2 (by omega)
    have n2 : btw op 11 15 = false := btw_false.2 (by omega)
    clear e
    have m1 : (op == 1) = false := by simp; omega
    have m2 : (op == 2) = false := by simp; omega
    have m3 : (op == 3) = false := by simp; omega
    have m4 : (op == 4) = false := by simp; omega
    have m5 : (op == 5) = false := by simp; omega
    have m6 : (op == 6) = false := by simp; omega
    have m7 : (op == 7) = false := by simp; omega
    have m8 : (op == 8) = false := by simp; omega
    have m9 : (op == 9) = false := by simp; omega
    have m10 : (op == 10) = false := by simp; omega
    have m11 : (op == 11) = false := by simp; omega
    have m12 : (op == 12) = false := by simp; omega
    have m13 : (op == 13) = false := by simp; omega
    have m14 : (op == 14) = false := by simp; omega
    have m15 : (op == 15) = false := by simp; omega
    have m16 : (op == 16) = false := by simp; omega
    have m17 : (op == 17) = false := by simp; omega
    have m18 : (op == 18) = false := by simp; omega
    have m19 : (op == 19) = false := by simp; omega
    have m20 : (op == 20) = false := by simp; omega
    have m21 : (op == 21) = false := by simp; omega
    have m22 : (op == 22) = false := by simp; omega
    have m23 : (op == 23) = false := by simp; omega
    have m24 : (op == 24) = false := by simp; omega
    have m25 : (op == 25) = false := by simp; omega
    have m26 : (op == 26) = false := by simp; omega
    clear ho
    go_enter Tryz.func321, Tryz.ntmps321
    go_wp2_with (first | (go_at_call 153; refine (inRange (r := true) _ (by first | decide | assumption)).mono ?_; rintro e w' ⟨rfl, rfl⟩) | (go_at_call 153; refine (inRange (r := false) _ (by first | decide | assumption)).mono ?_; rintro e w' ⟨rfl, rfl⟩) | (go_at_call 122; refine (isPlace _ (by assumption) (by omega) (by omega)).mono ?_; rintro e w' ⟨rfl, rfl⟩))
    go_ret2
    exact ⟨ret_uses HE.out, bl9⟩

set_option maxHeartbeats 4000000 in
theorem uses03 (A B : Option Addr) (c d : Nat) (t : List ByteArray) (l : List DFunc) (op a : Int) (w : World) (hr : kFunc.Row w B l.length l) (hm : l.length ≤ 1048576) : Calls Tryz.prog 232 #[.agg #[.slice A t.length c, .slice B l.length d], .agg #[.int .i64 op, .int .i64 a]] w fun e w' => e = .returned (.tuple #[.int .i64 (uses l op a).1, .int .i64 (uses l op a).2]) ∧ Below w.heap.size w w' := by
  have hcase : (op = 1 ∨ op = 2 ∨ op = 3 ∨ op = 4 ∨ op = 5 ∨ op = 6 ∨ op = 7 ∨ op = 8 ∨ op = 9 ∨ op = 10 ∨ op = 11 ∨ op = 12 ∨ op = 13 ∨ op = 14 ∨ op = 15 ∨ op = 16 ∨ op = 17 ∨ op = 18 ∨ op = 19 ∨ op = 20 ∨ op = 21 ∨ op = 22 ∨ op = 25 ∨ op = 26) ∨ op = 23 ∨ op = 24 ∨ (op < 1 ∨ 26 < op) := by omega
  rcases hcase with hc | rfl | rfl | ho
  · rcases hc with rfl | rfl | rfl | rfl | rfl | rfl | rfl | rfl | rfl | rfl | rfl | rfl | rfl | rfl | rfl | rfl | rfl | rfl | rfl | rfl | rfl | rfl | rfl | rfl
    all_goals
      go_enter Tryz.func232, Tryz.ntmps232
      go_wp2_with (first | (go_at_call 121; refine (between (r := true) _ (by first | decide | assumption)).mono ?_; rintro e w' ⟨rfl, rfl⟩) | (go_at_call 121; refine (between (r := false) _ (by first | decide | assumption)).mono ?_; rintro e w' ⟨rfl, rfl⟩))
      go_ret2
      exact ⟨by simp [uses], bl9⟩
  · cases ha : btw a 0 6
    · have HA := Lib.hid (btw_false.1 ha)
      go_enter Tryz.func232, Tryz.ntmps232
      go_wp2_with (first | (go_at_call 121; refine (between (r := true) _ (by first | decide | assumption)).mono ?_; rintro e w' ⟨rfl, rfl⟩) | (go_at_call 121; refine (between (r := false) _ (by first | decide | assumption)).mono ?_; rintro e w' ⟨rfl, rfl⟩))
      go_ret2
      exact ⟨ret_uses (uses_23n _ _ HA.out), bl9⟩
    · have HA := Lib.hid (btw_true.1 ha)
      have b1 : 0 ≤ a := (btw_true.1 ha).1
      have b2 : a ≤ 6 := (btw_true.1 ha).2
      go_enter Tryz.func232, Tryz.ntmps232
      go_wp2_with (first | (go_at_call 121; refine (between (r := true) _ (by first | decide | assumption)).mono ?_; rintro e w' ⟨rfl, rfl⟩) | (go_at_call 121; refine (between (r := false) _ (by first | decide | assumption)).mono ?_; rintro e w' ⟨rfl, rfl⟩))
      go_ret2
      exact ⟨by simp [uses, HA.out], bl9⟩
  · cases ha : btw a 0 ((l.length : Int) - 1)
    · have HA := Lib.hid (btw_false.1 ha)
      go_enter Tryz.func232, Tryz.ntmps232
      go_wp2_with (first | (go_at_call 121; refine (between (r := true) _ (by first | decide | assumption)).mono ?_; rintro e w' ⟨rfl, rfl⟩) | (go_at_call 121; refine (between (r := false) _ (by first | decide | assumption)).mono ?_; rintro e w' ⟨rfl, rfl⟩))
      go_ret2
      exact ⟨ret_uses (uses_24n _ _ HA.out), bl9⟩
    · obtain ⟨b1, b2⟩ := btw_true.1 ha
      obtain ⟨k, rfl⟩ := Int.eq_ofNat_of_zero_le b1
      obtain ⟨x, hx⟩ := get_exU l k (by omega)
      have HX := Lib.hid (uses_24 l k x hx)
      obtain ⟨ad, A2, c2, rfl, q0, q1, q2, _, _⟩ := kFunc_at hr k x hx
      have h0 := World.block_lt_of_cell? w _ q0
      have bk : (k : Int) < l.length := by omega
      clear hx b1 b2
      go_enter Tryz.func232, Tryz.ntmps232
      go_wp2_with (first | (go_at_call 121; refine (between (r := true) _ (by first | decide | assumption)).mono ?_; rintro e w' ⟨rfl, rfl⟩) | (go_at_call 121; refine (between (r := false) _ (by first | decide | assumption)).mono ?_; rintro e w' ⟨rfl, rfl⟩))
      go_ret2
      exact ⟨ret_uses HX.out, bl9⟩
  · have e : uses l op a = (0, 0) := by
      unfold uses
      rw [if_neg (by omega), if_neg (by omega), if_neg (by omega), if_neg (by omega), if_neg (by omega), if_neg (by omega), if_neg (by omega), if_neg (by omega), if_neg (by omega)]
    have HE := Lib.hid e
    have n1 : btw op 1 6 = false := btw_false.2 (by omega)
    have n2 : btw op 11 15 = false := btw_false.2 (by omega)
    clear e
    have m1 : (op == 1) = false := by simp; omega
    have m2 : (op == 2) = false := by simp; omega
    have m3 : (op == 3) = false := by simp; omega
    have m4 : (op == 4) = false := by simp; omega
    have m5 : (op == 5) = false := by simp; omega
    have m6 : (op == 6) = false := by simp; omega
    have m7 : (op == 7) = false := by simp; omega
    have m8 : (op == 8) = false := by simp; omega
    have m9 : (op == 9) = false := by simp; omega
    have m10 : (op == 10) = false := by simp; omega
    have m11 : (op == 11) = false := by simp; omega
    have m12 : (op == 12) = false := by simp; omega
    have m13 : (op == 13) = false := by simp; omega
    have m14 : (op == 14) = false := by simp; omega
    have m15 : (op == 15) = false := by simp; omega
    have m16 : (op == 16) = false := by simp; omega
    have m17 : (op == 17) = false := by simp; omega
    have m18 : (op == 18) = false := by simp; omega
    have m19 : (op == 19) = false := by simp; omega
    have m20 : (op == 20) = false := by simp; omega
    have m21 : (op == 21) = false := by simp; omega
    have m22 : (op == 22) = false := by simp; omega
    have m23 : (op == 23) = false := by simp; omega
    have m24 : (op == 24) = false := by simp; omega
    have m25 : (op == 25) = false := by simp; omega
    have m26 : (op == 26) = false := by simp; omega
    clear ho
    go_enter Tryz.func232, Tryz.ntmps232
    go_wp2_with (first | (go_at_call 121; refine (between (r := true) _ (by first | decide | assumption)).mono ?_; rintro e w' ⟨rfl, rfl⟩) | (go_at_call 121; refine (between (r := false) _ (by first | decide | assumption)).mono ?_; rintro e w' ⟨rfl, rfl⟩))
    go_ret2
    exact ⟨ret_uses HE.out, bl9⟩
/-- m - 1, as a machine reckons it. -/
def prev (m : Int) : Int := if m = -9223372036854775808 then 9223372036854775807 else m - 1
theorem prev_of {m : Int} (h : m ≠ -9223372036854775808) : prev m = m - 1 := by simp [prev, h]
theorem least64 : wrap64 (-9223372036854775809) = 9223372036854775807 := by kernel_rfl
theorem prev_least : prev (-9223372036854775808) = 9223372036854775807 := if_pos rfl
theorem isPlaceW {n m : Int} {r : Bool} (w : World) (h : btw n 0 (prev m) = r) (h1 : -9223372036854775808 ≤ m) (h2 : m ≤ 9223372036854775807) : Calls Tryz.prog 122 #[.int .i64 n, .int .i64 m] w fun e w' => e = .returned (.bool r) ∧ w = w' := by
  by_cases hm : m = -9223372036854775808
  · subst hm
    rw [prev_least] at h
    go_enter Tryz.func122, Tryz.ntmps122
    go_wp2_with fail
    refine (inRange (r := r) (c := wrap64 (-9223372036854775809)) _ (by rw [least64]; exact h)).mono ?_; rintro e w' ⟨rfl, rfl⟩
    go_wp2
    go_ret
    exact ⟨rfl, rfl⟩
  · have e := prev_of hm
    rw [e] at h
    have h3 : -9223372036854775807 ≤ m := by omega
    clear e hm
    go_enter Tryz.func122, Tryz.ntmps122
    go_wp2_with (go_at_call 153; refine (inRange _ h).mono ?_; rintro e w' ⟨rfl, rfl⟩)
    go_ret
    exact ⟨rfl, rfl⟩
/-- The reference's l01Between(n, 0, m - 1) is asked at m - 1. -/
def insB (nt nf loc len op a : Int) : Bool :=
  if op = 1 then btw a (-1000000000) 1000000000 else if op = 2 then btw a 0 1 else if op = 3 then btw a 0 (nt - 1) else if op = 5 ∨ op = 24 then btw a 0 (nf - 1) else if op = 6 ∨ op = 7 then btw a 0 (prev loc)
  else if op = 17 ∨ op = 18 ∨ op = 19 then btw a 0 (len - 1) else if op = 20 then btw a 0 6 else if op = 21 ∨ op = 22 then btw a 0 5 else if op = 23 then btw a 0 6 else btw op 1 26 && decide (a = 0)
theorem insB_last {nt nf loc len op a : Int} {r : Bool} (h : insB nt nf loc len op a = r) (hop : op < 1 ∨ 26 < op) : r = false ∧ btw op 1 26 = false := by
  have hb : btw op 1 26 = false := btw_false.2 (by omega)
  refine ⟨?_, hb⟩
  rw [← h]
  unfold insB
  rw [if_neg (by omega), if_neg (by omega), if_neg (by omega), if_neg (by omega), if_neg (by omega), if_neg (by omega), if_neg (by omega), if_neg (by omega), if_neg (by omega), hb]
  rfl
set_option maxHeartbeats 4000000 in
theorem insI (A B C : Option Addr) (c d k : Nat) (nt nf n : Nat) (pa loc op a : Int) (w : World) {r : Bool} (h : insB nt nf loc n op a = r) (h1 : -9223372036854775808 ≤ loc) (h2 : loc ≤ 9223372036854775807) (h3 : nt ≤ 1048576) (h4 : nf ≤ 1048576) (h5 : n ≤ 1048576) : Calls Tryz.prog 320 #[.agg #[.slice A nt c, .slice B nf d], .agg #[.int .i64 pa, .int .i64 loc, .slice C n k], .agg #[.int .i64 op, .int .i64 a]] w fun e w' => e = .returned (.bool r) ∧ Below w.heap.size w w' := by
  have hcase : (op = 1 ∨ op = 2 ∨ op = 3 ∨ op = 5 ∨ op = 6 ∨ op = 7 ∨ op = 17 ∨ op = 18 ∨ op = 19 ∨ op = 20 ∨ op = 21 ∨ op = 22 ∨ op = 23 ∨ op = 24) ∨ (op = 4 ∨ op = 8 ∨ op = 9 ∨ op = 10 ∨ op = 11 ∨ op = 12 ∨ op = 13 ∨ op = 14 ∨ op = 15 ∨ op = 16 ∨ op = 25 ∨ op = 26) ∨ (op < 1 ∨ 26 < op) := by omega
  rcases hcase with hc | hc | ho
  · rcases hc with rfl | rfl | rfl | rfl | rfl | rfl | rfl | rfl | rfl | rfl | rfl | rfl | rfl | rfl
    all_goals
      simp [insB] at h
      have H := Lib.hid h
      clear h
      go_enter Tryz.func320, Tryz.ntmps320
      go_wp2_with (first | (go_at_call 327; refine (isNum _ H.out).mono ?_; rintro e w' ⟨rfl, rfl⟩) | (go_at_call 153; refine (inRange _ H.out).mono ?_; rintro e w' ⟨rfl, rfl⟩) | (go_at_call 122; refine (isPlaceW _ H.out (by omega) (by omega)).mono ?_; rintro e w' ⟨rfl, rfl⟩) | (go_at_call 122; refine (isPlace _ H.out (by omega) (by omega)).mono ?_; rintro e w' ⟨rfl, rfl⟩))
      go_ret
      exact ⟨rfl, bl9⟩
  · rcases hc with rfl | rfl | rfl | rfl | rfl | rfl | rfl | rfl | rfl | rfl | rfl | rfl
    all_goals
      simp [insB, btw] at h
      by_cases ha : a = 0
      · subst ha
        subst h
        go_enter Tryz.func320, Tryz.ntmps320
        go_wp2_with (go_at_call 153; refine (inRange (r := true) _ (by decide)).mono ?_; rintro e w' ⟨rfl, rfl⟩)
        go_ret
        exact ⟨rfl, bl9⟩
      · have ha2 : (a == 0) = false := by simpa using ha
        simp [ha] at h
        subst h
        clear ha
        go_enter Tryz.func320, Tryz.ntmps320
        go_wp2_with (go_at_call 153; refine (inRange (r := true) _ (by decide)).mono ?_; rintro e w' ⟨rfl, rfl⟩)
        go_ret
        exact ⟨rfl, bl9⟩
  · obtain ⟨rfl, hb⟩ := insB_last h ho
    clear h
    have m1 : (op == 1) = false := by simp; omega
    have m2 : (op == 2) = false := by simp; omega
    have m3 : (op == 3) = false := by simp; omega
    have m4 : (op == 4) = false := by simp; omega
    have m5 : (op == 5) = false := by simp; omega
    have m6 : (op == 6) = false := by simp; omega
    have m7 : (op == 7) = false := by simp; omega
    have m8 : (op == 8) = false := by simp; omega
    have m9 : (op == 9) = false := by simp; omega
    have m10 : (op == 10) = false := by simp; omega
    have m11 : (op == 11) = false := by simp; omega
    have m12 : (op == 12) = false := by simp; omega
    have m13 : (op == 13) = false := by simp; omega
    have m14 : (op == 14) = false := by simp; omega
    have m15 : (op == 15) = false := by simp; omega
    have m16 : (op == 16) = false := by simp; omega
    have m17 : (op == 17) = false := by simp; omega
    have m18 : (op == 18) = false := by simp; omega
    have m19 : (op == 19) = false := by simp; omega
    have m20 : (op == 20) = false := by simp; omega
    have m21 : (op == 21) = false := by simp; omega
    have m22 : (op == 22) = false := by simp; omega
    have m23 : (op == 23) = false := by simp; omega
    have m24 : (op == 24) = false := by simp; omega
    have m25 : (op == 25) = false := by simp; omega
    have m26 : (op == 26) = false := by simp; omega
    clear ho
    go_enter Tryz.func320, Tryz.ntmps320
    go_wp2_with (go_at_call 153; refine (inRange _ hb).mono ?_; rintro e w' ⟨rfl, rfl⟩)
    go_ret
    exact ⟨rfl, bl9⟩
/-- InsOk: of the function numbered f. -/
def insAt (nt : Nat) (l : List DFunc) (f op a : Int) : Bool := if 0 ≤ f ∧ f ≤ (l.length : Int) - 1 then insB nt l.length (l.getD f.toNat zFunc).locals (l.getD f.toNat zFunc).code.length op a else false
theorem insAt_no {nt : Nat} {l : List DFunc} {f op a : Int} (h : ¬ (0 ≤ f ∧ f ≤ (l.length : Int) - 1)) : insAt nt l f op a = false := by unfold insAt; rw [if_neg h]
theorem insAt_at {nt : Nat} {l : List DFunc} {k : Nat} {x : DFunc} {op a : Int} (hx : l[k]? = some x) : insAt nt l k op a = insB nt l.length x.locals x.code.length op a := by
  have hk : k < l.length := (List.getElem?_eq_some_iff.1 hx).1
  unfold insAt
  rw [if_pos (by omega)]
  simp [List.getD_eq_getElem?_getD, hx]
set_option maxHeartbeats 4000000 in
theorem insOk03 (A B : Option Addr) (c d : Nat) (t : List ByteArray) (l : List DFunc) (f op a : Int) (w : World) (hr : kFunc.Row w B l.length l) (htm : t.length ≤ 1048576) (hm : l.length ≤ 1048576) (hv : ∀ x ∈ l, x.code.length ≤ 1048576 ∧ -9223372036854775808 ≤ x.locals ∧ x.locals ≤ 9223372036854775807) : Calls Tryz.prog 316 #[.agg #[.slice A t.length c, .slice B l.length d], .int .i64 f, .agg #[.int .i64 op, .int .i64 a]] w fun e w' => e = .returned (.bool (insAt t.length l f op a)) ∧ Below w.heap.size w w' := by
  cases hf : btw f 0 ((l.length : Int) - 1)
  · rw [insAt_no (btw_false.1 hf)]
    have HF := Lib.hid hf
    clear hf
    go_enter Tryz.func316, Tryz.ntmps316
    go_wp2_with (go_at_call 121; refine (between _ HF.out).mono ?_; rintro e w' ⟨rfl, rfl⟩)
    go_ret
    exact ⟨rfl, bl9⟩
  · obtain ⟨b1, b2⟩ := btw_true.1 hf
    obtain ⟨k, rfl⟩ := Int.eq_ofNat_of_zero_le b1
    obtain ⟨x, hx⟩ := get_exU l k (by omega)
    rw [insAt_at hx]
    obtain ⟨hl, hl1, hl2⟩ := hv x (List.mem_of_getElem? hx)
    obtain ⟨ad, A2, c2, rfl, q0, q1, q2, _, _⟩ := kFunc_at hr k x hx
    have h0 := World.block_lt_of_cell? w _ q0
    have bk : (k : Int) < l.length := by omega
    generalize h : insB t.length l.length x.locals x.code.length op a = r
    have HF := Lib.hid hf
    clear hx b1 b2 hf
    generalize x.locals = loc at h hl1 hl2 q1
    have hcase : (op = 1 ∨ op = 2 ∨ op = 3 ∨ op = 5 ∨ op = 20 ∨ op = 21 ∨ op = 22 ∨ op = 23 ∨ op = 24) ∨ (op = 17 ∨ op = 18 ∨ op = 19) ∨ (op = 6 ∨ op = 7) ∨ (op = 4 ∨ op = 8 ∨ op = 9 ∨ op = 10 ∨ op = 11 ∨ op = 12 ∨ op = 13 ∨ op = 14 ∨ op = 15 ∨ op = 16 ∨ op = 25 ∨ op = 26) ∨ (op < 1 ∨ 26 < op) := by omega
    rcases hcase with hc | hc | hc | hc | ho
    · rcases hc with rfl | rfl | rfl | rfl | rfl | rfl | rfl | rfl | rfl
      all_goals
        simp [insB] at h
        have H := Lib.hid h
        clear h
        go_enter Tryz.func316, Tryz.ntmps316
        go_wp2_with fail
        refine (between _ HF.out).mono ?_
        rintro e w' ⟨rfl, rfl⟩
        go_wp2_with (go_at_call 121; refine (between _ H.out).mono ?_; rintro e w' ⟨rfl, rfl⟩)
        go_ret
        exact ⟨rfl, bl9⟩
    · rcases hc with rfl | rfl | rfl
      all_goals
        simp [insB] at h
        have H := Lib.hid h
        clear h
        go_enter Tryz.func316, Tryz.ntmps316
        go_wp2_with fail
        refine (between _ HF.out).mono ?_
        rintro e w' ⟨rfl, rfl⟩
        go_wp2
        go_quiet (exact Calls.quiet_of_same ((between _ H.out).mono (fun e w' h => ⟨h.1, h.2.symm⟩)))
        go_wp2
        go_ret
        exact ⟨rfl, bl9⟩
    · rcases hc with rfl | rfl
      all_goals
        simp [insB] at h
        by_cases hmin : loc = -9223372036854775808
        · subst hmin
          rw [prev_least] at h
          have H := Lib.hid h
          clear h
          go_enter Tryz.func316, Tryz.ntmps316
          go_wp2_with fail
          refine (between _ HF.out).mono ?_
          rintro e w' ⟨rfl, rfl⟩
          go_wp2
          go_quiet (exact Calls.quiet_of_same ((between (r := r) (c := wrap64 (-9223372036854775809)) _ (by rw [least64]; exact H.out)).mono (fun e w' h => ⟨h.1, h.2.symm⟩)))
          go_wp2
          go_ret
          exact ⟨rfl, bl9⟩
        · rw [prev_of hmin] at h
          have h3 : -9223372036854775807 ≤ loc := by omega
          have H := Lib.hid h
          clear h hmin
          go_enter Tryz.func316, Tryz.ntmps316
          go_wp2_with fail
          refine (between _ HF.out).mono ?_
          rintro e w' ⟨rfl, rfl⟩
          go_wp2
          go_quiet (exact Calls.quiet_of_same ((between _ H.out).mono (fun e w' h => ⟨h.1, h.2.symm⟩)))
          go_wp2
          go_ret
          exact ⟨rfl, bl9⟩
    · rcases hc with rfl | rfl | rfl | rfl | rfl | rfl | rfl | rfl | rfl | rfl | rfl | rfl
      all_goals
        simp [insB, btw] at h
        by_cases ha : a = 0
        · subst ha
          subst h
          go_enter Tryz.func316, Tryz.ntmps316
          go_wp2_with fail
          refine (between _ HF.out).mono ?_
          rintro e w' ⟨rfl, rfl⟩
          go_wp2_with (go_at_call 121; refine (between (r := true) _ (by decide)).mono ?_; rintro e w' ⟨rfl, rfl⟩)
          go_ret
          exact ⟨rfl, bl9⟩
        · have ha2 : (a == 0) = false := by simpa using ha
          simp [ha] at h
          subst h
          clear ha
          go_enter Tryz.func316, Tryz.ntmps316
          go_wp2_with fail
          refine (between _ HF.out).mono ?_
          rintro e w' ⟨rfl, rfl⟩
          go_wp2_with (go_at_call 121; refine (between (r := true) _ (by decide)).mono ?_; rintro e w' ⟨rfl, rfl⟩)
          go_ret
          exact ⟨rfl, bl9⟩
    · obtain ⟨rfl, hb⟩ := insB_last h ho
      clear h
      have m1 : (op == 1) = false := by simp; omega
      have m2 : (op == 2) = false := by simp; omega
      have m3 : (op == 3) = false := by simp; omega
      have m4 : (op == 4) = false := by simp; omega
      have m5 : (op == 5) = false := by simp; omega
      have m6 : (op == 6) = false := by simp; omega
      have m7 : (op == 7) = false := by simp; omega
      have m8 : (op == 8) = false := by simp; omega
      have m9 : (op == 9) = false := by simp; omega
      have m10 : (op == 10) = false := by simp; omega
      have m11 : (op == 11) = false := by simp; omega
      have m12 : (op == 12) = false := by simp; omega
      have m13 : (op == 13) = false := by simp; omega
      have m14 : (op == 14) = false := by simp; omega
      have m15 : (op == 15) = false := by simp; omega
      have m16 : (op == 16) = false := by simp; omega
      have m17 : (op == 17) = false := by simp; omega
      have m18 : (op == 18) = false := by simp; omega
      have m19 : (op == 19) = false := by simp; omega
      have m20 : (op == 20) = false := by simp; omega
      have m21 : (op == 21) = false := by simp; omega
      have m22 : (op == 22) = false := by simp; omega
      have m23 : (op == 23) = false := by simp; omega
      have m24 : (op == 24) = false := by simp; omega
      have m25 : (op == 25) = false := by simp; omega
      have m26 : (op == 26) = false := by simp; omega
      clear ho
      go_enter Tryz.func316, Tryz.ntmps316
      go_wp2_with fail
      refine (between _ HF.out).mono ?_
      rintro e w' ⟨rfl, rfl⟩
      go_wp2_with (go_at_call 121; refine (between _ hb).mono ?_; rintro e w' ⟨rfl, rfl⟩)
      go_ret
      exact ⟨rfl, bl9⟩
def okByte (b : UInt8) : Bool := !(decide (b.toNat < 32) || decide (126 < b.toNat) || decide (b.toNat = 34))
def textB (s : ByteArray) : Bool := decide (s.size ≤ 60) && s.data.toList.all okByte
theorem all_upto {s : ByteArray} (h : ∀ j (hj : j < s.size), okByte s[j] = true) : s.data.toList.all okByte = true := by
  rw [List.all_eq_true]
  intro x hx
  obtain ⟨j, hj, e⟩ := Array.mem_iff_getElem.1 (Array.mem_toList_iff.1 hx)
  have := h j hj
  rw [← e]
  exact this
theorem all_not {s : ByteArray} {j : Nat} (hj : j < s.size) (hb : okByte s[j] = false) : s.data.toList.all okByte = false := by
  rw [List.all_eq_false]
  exact ⟨s[j], Array.mem_toList_iff.2 (Array.mem_iff_getElem.2 ⟨j, hj, rfl⟩), by simp [hb]⟩
theorem ok_step {s : ByteArray} {k : Nat} (h : ∀ j (hj : j < s.size), j < k → okByte s[j] = true) (hk : k < s.size) (ho : okByte s[k] = true) : ∀ j (hj : j < s.size), j < k + 1 → okByte s[j] = true := by
  intro j hj hlt
  rcases Nat.lt_succ_iff_lt_or_eq.1 hlt with hlt | rfl
  · exact h j hj hlt
  · exact ho
theorem ok_true {b : UInt8} (h1 : 32 ≤ (b.toNat : Int)) (h2 : (b.toNat : Int) ≤ 126) (h3 : (b.toNat : Int) ≠ 34) : okByte b = true := by
  simp [okByte]
  omega
theorem ok_false {b : UInt8} (h : (b.toNat : Int) < 32 ∨ 126 < (b.toNat : Int) ∨ (b.toNat : Int) = 34) : okByte b = false := by
  simp [okByte]
  omega
theorem text_no {s : ByteArray} {k : Nat} (hk : k < s.size) (h : okByte s[k] = false) : textB s = false := by
  simp [textB, all_not hk h]
theorem text_all {s : ByteArray} (h : ∀ j (hj : j < s.size), j < s.size → okByte s[j] = true) : textB s = decide ((s.size : Int) ≤ 60) := by
  have e : (decide (s.size ≤ 60)) = decide ((s.size : Int) ≤ 60) := by
    apply decide_eq_decide.2
    omega
  rw [textB, all_upto (fun j hj => h j hj hj), Bool.and_true, e]
set_option maxHeartbeats 1000000 in
theorem textI (s : ByteArray) (w : World) (hm : s.size ≤ maxLen) : Calls Tryz.prog 246 #[.string s] w fun e w' => e = .returned (.bool (textB s)) ∧ w = w' := by
  unfold maxLen at hm
  go_enter Tryz.func246, Tryz.ntmps246
  go_wp2
  go_loopw [6] (fun i wr => ∃ k : Nat, k ≤ s.size ∧ i = .int .i64 k ∧ Hid (∀ j (hj : j < s.size), j < k → okByte s[j] = true) ∧ w = wr) (fun i _ => s.size - (intOf i).toNat)
  case atStart => exact ⟨0, by omega, rfl, (fun j hj h => by omega), rfl⟩
  case round =>
    obtain ⟨k, hk, rfl, ho, rfl⟩ := hrel
    by_cases hlt : k < s.size
    · by_cases h1 : ((s[k]).toNat : Int) < 32
      · have HE := Lib.hid (text_no hlt (ok_false (.inl h1)))
        go_wp2
        go_ret
        exact ⟨ret_bool HE.out.symm, rfl⟩
      · by_cases h2 : 126 < ((s[k]).toNat : Int)
        · have HE := Lib.hid (text_no hlt (ok_false (.inr (.inl h2))))
          go_wp2
          go_ret
          exact ⟨ret_bool HE.out.symm, rfl⟩
        · by_cases h3 : ((s[k]).toNat : Int) = 34
          · have HE := Lib.hid (text_no hlt (ok_false (.inr (.inr h3))))
            go_wp2
            go_ret
            exact ⟨ret_bool HE.out.symm, rfl⟩
          · have HN := Lib.hid (ok_step ho.out hlt (ok_true (by omega) (by omega) h3))
            have h4 : (((s[k]).toNat : Int) == 34) = false := by simpa using h3
            go_wp2
            go_roundw
            case rel => exact ⟨k + 1, by omega, by go_num, HN, trivial⟩
            case measure => simp [intOf]; omega
    · obtain rfl : k = s.size := by omega
      have HE := Lib.hid (text_all ho.out)
      go_wp2
      go_ret
      exact ⟨ret_bool HE.out.symm, rfl⟩
set_option maxHeartbeats 1000000 in
theorem text01 (s : ByteArray) (w : World) (hm : s.size ≤ maxLen) : Calls Tryz.prog 185 #[.string s] w fun e w' => e = .returned (.bool (textB s)) ∧ w = w' := by
  by_cases h60 : (s.size : Int) ≤ 60
  rotate_left
  · have HE := Lib.hid (show textB s = false by simp [textB]; intro h; omega)
    go_enter Tryz.func185, Tryz.ntmps185
    go_wp2
    go_ret
    exact ⟨ret_bool HE.out.symm, rfl⟩
  go_enter Tryz.func185, Tryz.ntmps185
  go_wp2
  go_loopw [3] (fun i wr => ∃ k : Nat, k ≤ s.size ∧ i = .int .i64 k ∧ Hid (∀ j (hj : j < s.size), j < k → okByte s[j] = true) ∧ w = wr) (fun i _ => s.size - (intOf i).toNat)
  case atStart => exact ⟨0, by omega, rfl, (fun j hj h => by omega), rfl⟩
  case round =>
    obtain ⟨k, hk, rfl, ho, rfl⟩ := hrel
    by_cases hlt : k < s.size
    · by_cases h1 : ((s[k]).toNat : Int) < 32
      · have HE := Lib.hid (text_no hlt (ok_false (.inl h1)))
        go_wp2
        go_ret
        exact ⟨ret_bool HE.out.symm, rfl⟩
      · by_cases h2 : 126 < ((s[k]).toNat : Int)
        · have HE := Lib.hid (text_no hlt (ok_false (.inr (.inl h2))))
          go_wp2
          go_ret
          exact ⟨ret_bool HE.out.symm, rfl⟩
        · by_cases h3 : ((s[k]).toNat : Int) = 34
          · have HE := Lib.hid (text_no hlt (ok_false (.inr (.inr h3))))
            go_wp2
            go_ret
            exact ⟨ret_bool HE.out.symm, rfl⟩
          · have HN := Lib.hid (ok_step ho.out hlt (ok_true (by omega) (by omega) h3))
            have h4 : (((s[k]).toNat : Int) == 34) = false := by simpa using h3
            go_wp2
            go_roundw
            case rel => exact ⟨k + 1, by omega, by go_num, HN, trivial⟩
            case measure => simp [intOf]; omega
    · obtain rfl : k = s.size := by omega
      have HE := Lib.hid (show textB s = true by rw [text_all ho.out]; simp [h60])
      go_wp2
      go_ret
      exact ⟨ret_bool HE.out.symm, rfl⟩
theorem cl1 (s : ByteArray) (w : World) (hm : s.size ≤ maxLen) : Calls Tryz.prog 317 #[.string s] w fun e w' => e = .returned (.bool (!textB s)) ∧ w = w' := by
  go_enter Tryz.func317, Tryz.ntmps317
  go_wp2_with (go_at_call 246; refine (textI _ _ hm).mono ?_; rintro e w' ⟨rfl, rfl⟩)
  go_ret
  exact ⟨rfl, rfl⟩
theorem cl2 (A B C : Option Addr) (c d k : Nat) (nt nf n : Nat) (pa loc : Int) (x : DIns) (g1 g2 : Nat) (w : World)
    (h1 : w.cell? ⟨g1, 0, none⟩ = some (.slice A nt c)) (h2 : w.cell? ⟨g1, 1, none⟩ = some (.slice B nf d)) (h3 : w.cell? ⟨g2, 0, none⟩ = some (.int .i64 pa)) (h4 : w.cell? ⟨g2, 1, none⟩ = some (.int .i64 loc)) (h5 : w.cell? ⟨g2, 2, none⟩ = some (.slice C n k))
    (hl1 : -9223372036854775808 ≤ loc) (hl2 : loc ≤ 9223372036854775807) (hnt : nt ≤ 1048576) (hnf : nf ≤ 1048576) (hn : n ≤ 1048576) :
    Calls Tryz.prog 319 #[.agg #[.int .i64 x.op, .int .i64 x.a], .pointer (some ⟨g1, 0, none⟩), .pointer (some ⟨g2, 0, none⟩)] w fun e w' => e = .returned (.bool (!insB nt nf loc n x.op x.a)) ∧ Below w.heap.size w w' := by
  have b1 : g1 < w.heap.size := World.block_lt_of_cell? w _ h1
  have b2 : g2 < w.heap.size := World.block_lt_of_cell? w _ h3
  go_enter Tryz.func319, Tryz.ntmps319
  go_wp2_with (go_at_call 320; refine (insI _ _ _ _ _ _ _ _ _ _ _ _ _ _ rfl hl1 hl2 hnt hnf hn).mono ?_; rintro e w' ⟨rfl, hb⟩)
  go_ret
  exact ⟨rfl, bl9⟩
theorem any_no {α : Type} {p : α → Bool} {l : List α} (h : ∀ j x, l[j]? = some x → j < l.length → p x = false) : l.any p = false := by
  rw [List.any_eq_false]
  intro x hx
  obtain ⟨j, hj⟩ := List.mem_iff_getElem?.1 hx
  simp [h j x hj (List.getElem?_eq_some_iff.1 hj).1]
theorem any_yes {α : Type} {p : α → Bool} {l : List α} {k : Nat} {x : α} (h : l[k]? = some x) (hp : p x = true) : l.any p = true := by
  rw [List.any_eq_true]
  exact ⟨x, List.mem_of_getElem? h, hp⟩
theorem not_step {α : Type} {p : α → Bool} {l : List α} {k : Nat} {x : α} (h : ∀ j y, l[j]? = some y → j < k → p y = false) (hx : l[k]? = some x) (hp : p x = false) : ∀ j y, l[j]? = some y → j < k + 1 → p y = false := by
  intro j y hy hj
  rcases Nat.lt_succ_iff_lt_or_eq.1 hj with hj | rfl
  · exact h j y hy hj
  · rw [hx] at hy
    cases hy
    exact hp
set_option maxHeartbeats 1000000 in
theorem idx1 (A : Option Addr) (c : Nat) (l : List ByteArray) (w : World) (hr : Knd.str.Row w A l.length l) (hl : l.length ≤ 1048576) (hv : ∀ x ∈ l, x.size ≤ maxLen) :
    Calls Tryz.prog 325 #[.slice A l.length c, .func (.func 317) #[] #[]] w fun e w' => ∃ r : Int, e = .returned (.int .i64 r) ∧ decide (0 ≤ r) = l.any (fun s => !textB s) ∧ w = w' := by
  go_enter Tryz.func325, Tryz.ntmps325
  go_wp2
  go_loopw [8] (fun i wr => ∃ k : Nat, k ≤ l.length ∧ i = .int .i64 k ∧ Hid (∀ j x, l[j]? = some x → j < k → (!textB x) = false) ∧ w = wr) (fun i _ => l.length - (intOf i).toNat)
  case atStart => exact ⟨0, by omega, rfl, (fun j x _ h => by omega), rfl⟩
  case round =>
    obtain ⟨k, hk, rfl, ho, rfl⟩ := hrel
    by_cases hlt : k < l.length
    · obtain ⟨x, hx⟩ := get_exU l k hlt
      have hxm := hv x (List.mem_of_getElem? hx)
      obtain ⟨ad, cs, rfl, hK, q⟩ := hr.get k x hx
      obtain rfl : cs = [.string x] := hK
      have q0 : w.cell? (ad.add k) = some (.string x) := by have := q 0 _ rfl; simpa [Knd.str, Knd.scalar] using this
      clear q
      cases hp : (!textB x)
      · have HN := Lib.hid (not_step ho.out hx hp)
        have C := cl1 x w hxm
        rw [hp] at C
        clear hx hp
        go_wp2_with fail
        refine C.mono ?_
        rintro e w' ⟨rfl, rfl⟩
        go_wp2
        go_roundw
        case rel => exact ⟨k + 1, by omega, by go_num, HN, trivial⟩
        case measure => simp [intOf]; omega
      · have HE := Lib.hid (any_yes (p := fun s => !textB s) hx hp)
        have C := cl1 x w hxm
        rw [hp] at C
        clear hx hp
        go_wp2_with fail
        refine C.mono ?_
        rintro e w' ⟨rfl, rfl⟩
        go_wp2
        go_ret
        exact ⟨_, rfl, by rw [HE.out]; simp, rfl⟩
    · obtain rfl : k = l.length := by omega
      have HE := Lib.hid (any_no (p := fun s => !textB s) (fun j x h h2 => ho.out j x h h2))
      go_wp2
      go_ret
      exact ⟨_, rfl, by rw [HE.out]; simp, rfl⟩
theorem has1 (A : Option Addr) (c : Nat) (l : List ByteArray) (w : World) (hr : Knd.str.Row w A l.length l) (hl : l.length ≤ 1048576) (hv : ∀ x ∈ l, x.size ≤ maxLen) :
    Calls Tryz.prog 244 #[.slice A l.length c, .func (.func 317) #[] #[]] w fun e w' => e = .returned (.bool (l.any (fun s => !textB s))) ∧ w = w' := by
  go_enter Tryz.func244, Tryz.ntmps244
  go_wp2_with fail
  refine (idx1 _ _ _ _ hr hl hv).mono ?_
  rintro e w' ⟨r, rfl, he, rfl⟩
  have HE := Lib.hid he
  clear he
  go_wp2
  go_ret
  exact ⟨ret_bool HE.out, rfl⟩
set_option maxHeartbeats 1000000 in
theorem idx2 (A B C D : Option Addr) (c d k0 k1 : Nat) (nt nf n : Nat) (pa loc : Int) (l : List DIns) (g1 g2 : Nat) (w : World) (hr : kIns.Row w D l.length l) (hl : l.length ≤ 1048576)
    (h1 : w.cell? ⟨g1, 0, none⟩ = some (.slice A nt c)) (h2 : w.cell? ⟨g1, 1, none⟩ = some (.slice B nf d)) (h3 : w.cell? ⟨g2, 0, none⟩ = some (.int .i64 pa)) (h4 : w.cell? ⟨g2, 1, none⟩ = some (.int .i64 loc)) (h5 : w.cell? ⟨g2, 2, none⟩ = some (.slice C n k0))
    (hl1 : -9223372036854775808 ≤ loc) (hl2 : loc ≤ 9223372036854775807) (hnt : nt ≤ 1048576) (hnf : nf ≤ 1048576) (hn : n ≤ 1048576) :
    Calls Tryz.prog 350 #[.slice D l.length k1, .func (.func 319) #[] #[.pointer (some ⟨g1, 0, none⟩), .pointer (some ⟨g2, 0, none⟩)]] w fun e w' => ∃ r : Int, e = .returned (.int .i64 r) ∧ decide (0 ≤ r) = l.any (fun x => !insB nt nf loc n x.op x.a) ∧ Below w.heap.size w w' := by
  go_enter Tryz.func350, Tryz.ntmps350
  go_wp2
  go_loopw [8] (fun i wr => ∃ k : Nat, k ≤ l.length ∧ i = .int .i64 k ∧ Hid (∀ j x, l[j]? = some x → j < k → (!insB nt nf loc n x.op x.a) = false) ∧ Below w.heap.size w wr) (fun i _ => l.length - (intOf i).toNat)
  case atStart => exact ⟨0, by omega, rfl, (fun j x _ h => by omega), Below.refl _ _⟩
  case round =>
    obtain ⟨k, hk, rfl, ho, hb⟩ := hrel
    by_cases hlt : k < l.length
    · obtain ⟨x, hx⟩ := get_exU l k hlt
      obtain ⟨ad, rfl, q0, q1⟩ := kIns_at (hr.below hb) k x hx
      cases hp : (!insB nt nf loc n x.op x.a)
      · have HN := Lib.hid (not_step ho.out hx hp)
        have C := cl2 A B C c d k0 nt nf n pa loc x g1 g2 wr (kept hb h1) (kept hb h2) (kept hb h3) (kept hb h4) (kept hb h5) hl1 hl2 hnt hnf hn
        rw [hp] at C
        clear hx hp
        go_wp2_with fail
        refine C.mono ?_
        rintro e w' ⟨rfl, hb2⟩
        go_wp2
        go_roundw
        case rel => exact ⟨k + 1, by omega, by go_num, HN, bl9⟩
        case measure => simp [intOf]; omega
      · have HE := Lib.hid (any_yes (p := fun x : DIns => !insB nt nf loc n x.op x.a) hx hp)
        have C := cl2 A B C c d k0 nt nf n pa loc x g1 g2 wr (kept hb h1) (kept hb h2) (kept hb h3) (kept hb h4) (kept hb h5) hl1 hl2 hnt hnf hn
        rw [hp] at C
        clear hx hp
        go_wp2_with fail
        refine C.mono ?_
        rintro e w' ⟨rfl, hb2⟩
        go_wp2
        go_ret
        exact ⟨_, rfl, by rw [HE.out]; simp, bl9⟩
    · obtain rfl : k = l.length := by omega
      have HE := Lib.hid (any_no (p := fun x : DIns => !insB nt nf loc n x.op x.a) (fun j x h h2 => ho.out j x h h2))
      go_wp2
      go_ret
      exact ⟨_, rfl, by rw [HE.out]; simp, hb⟩
theorem has2 (A B C D : Option Addr) (c d k0 k1 : Nat) (nt nf n : Nat) (pa loc : Int) (l : List DIns) (g1 g2 : Nat) (w : World) (hr : kIns.Row w D l.length l) (hl : l.length ≤ 1048576)
    (h1 : w.cell? ⟨g1, 0, none⟩ = some (.slice A nt c)) (h2 : w.cell? ⟨g1, 1, none⟩ = some (.slice B nf d)) (h3 : w.cell? ⟨g2, 0, none⟩ = some (.int .i64 pa)) (h4 : w.cell? ⟨g2, 1, none⟩ = some (.int .i64 loc)) (h5 : w.cell? ⟨g2, 2, none⟩ = some (.slice C n k0))
    (hl1 : -9223372036854775808 ≤ loc) (hl2 : loc ≤ 9223372036854775807) (hnt : nt ≤ 1048576) (hnf : nf ≤ 1048576) (hn : n ≤ 1048576) :
    Calls Tryz.prog 318 #[.slice D l.length k1, .func (.func 319) #[] #[.pointer (some ⟨g1, 0, none⟩), .pointer (some ⟨g2, 0, none⟩)]] w fun e w' => e = .returned (.bool (l.any (fun x => !insB nt nf loc n x.op x.a))) ∧ Below w.heap.size w w' := by
  go_enter Tryz.func318, Tryz.ntmps318
  go_wp2_with fail
  refine (idx2 _ _ _ _ _ _ _ _ _ _ _ _ _ _ _ _ _ hr hl h1 h2 h3 h4 h5 hl1 hl2 hnt hnf hn).mono ?_
  rintro e w' ⟨r, rfl, he, hb⟩
  have HE := Lib.hid he
  clear he
  go_wp2
  go_ret
  exact ⟨ret_bool HE.out, bl9⟩
def funcB (nt nf : Nat) (x : DFunc) : Bool := btw x.params 0 6 && btw x.locals x.params 12 && btw x.code.length 1 120 && x.code.all (fun y => insB nt nf x.locals x.code.length y.op y.a)
def modB (t : List ByteArray) (l : List DFunc) : Bool := btw l.length 1 12 && decide ((t.length : Int) ≤ 20) && t.all textB && l.all (funcB t.length l.length)
theorem all_any {α : Type} (p : α → Bool) (l : List α) : l.all p = !l.any (fun x => !p x) := by
  induction l with
  | nil => rfl
  | cons x l ih => simp [ih]
theorem modB_1 {t : List ByteArray} {l : List DFunc} (h : btw l.length 1 12 = false) : modB t l = false := by simp [modB, h]
theorem modB_2 {t : List ByteArray} {l : List DFunc} (h : ¬ (t.length : Int) ≤ 20) : modB t l = false := by simp only [modB, decide_eq_false h, Bool.and_false, Bool.false_and]
theorem modB_3 {t : List ByteArray} {l : List DFunc} (h : t.all textB = false) : modB t l = false := by simp [modB, h]
theorem modB_4 {t : List ByteArray} {l : List DFunc} (h1 : btw l.length 1 12 = true) (h2 : (t.length : Int) ≤ 20) (h3 : t.all textB = true) : modB t l = l.all (funcB t.length l.length) := by simp only [modB, h1, decide_eq_true h2, h3, Bool.and_true, Bool.true_and]
theorem all_bad {α : Type} {p : α → Bool} {l : List α} {k : Nat} {x : α} (h : l[k]? = some x) (hp : p x = false) : l.all p = false := by
  rw [List.all_eq_false]
  exact ⟨x, List.mem_of_getElem? h, by simp [hp]⟩
theorem all_good {α : Type} {p : α → Bool} {l : List α} (h : ∀ j x, l[j]? = some x → j < l.length → p x = true) : l.all p = true := by
  rw [List.all_eq_true]
  intro x hx
  obtain ⟨j, hj⟩ := List.mem_iff_getElem?.1 hx
  exact h j x hj (List.getElem?_eq_some_iff.1 hj).1
theorem yes_step {α : Type} {p : α → Bool} {l : List α} {k : Nat} {x : α} (h : ∀ j y, l[j]? = some y → j < k → p y = true) (hx : l[k]? = some x) (hp : p x = true) : ∀ j y, l[j]? = some y → j < k + 1 → p y = true := by
  intro j y hy hj
  rcases Nat.lt_succ_iff_lt_or_eq.1 hj with hj | rfl
  · exact h j y hy hj
  · rw [hx] at hy
    cases hy
    exact hp
set_option maxHeartbeats 4000000 in
theorem modOkI (A B : Option Addr) (c d : Nat) (t : List ByteArray) (l : List DFunc) (w : World) (ht : Knd.str.Row w A t.length t) (hr : kFunc.Row w B l.length l) (htm : t.length ≤ 1048576) (hm : l.length ≤ 1048576) (htv : ∀ x ∈ t, x.size ≤ maxLen) (hv : ∀ x ∈ l, x.code.length ≤ 1048576 ∧ -9223372036854775808 ≤ x.locals ∧ x.locals ≤ 9223372036854775807) :
    Calls Tryz.prog 236 #[.agg #[.slice A t.length c, .slice B l.length d]] w fun e w' => e = .returned (.bool (modB t l)) ∧ Below w.heap.size w w' := by
  cases hA : btw l.length 1 12
  · rw [modB_1 hA]
    have HA := Lib.hid hA
    clear hA
    go_enter Tryz.func236, Tryz.ntmps236
    go_wp2_with (go_at_call 153; refine (inRange _ HA.out).mono ?_; rintro e w' ⟨rfl, rfl⟩)
    go_ret
    exact ⟨rfl, bl9⟩
  by_cases hB : (t.length : Int) ≤ 20
  rotate_left
  · rw [modB_2 hB]
    have HA := Lib.hid hA
    have hB2 : 20 < (t.length : Int) := by omega
    clear hA hB
    go_enter Tryz.func236, Tryz.ntmps236
    go_wp2_with (go_at_call 153; refine (inRange _ HA.out).mono ?_; rintro e w' ⟨rfl, rfl⟩)
    go_ret
    exact ⟨rfl, bl9⟩
  have C1 := has1 A c t
  cases hC : t.all textB
  · rw [modB_3 hC]
    have HA := Lib.hid hA
    rw [all_any] at hC
    rw [show t.any (fun s => !textB s) = true by simpa using hC] at C1
    clear hA hC
    go_enter Tryz.func236, Tryz.ntmps236
    go_wp2_with fail
    refine (inRange _ HA.out).mono ?_
    rintro e w' ⟨rfl, rfl⟩
    go_wp2_with fail
    refine (C1 _ (ht.below bl9) htm htv).mono ?_
    rintro e w' ⟨rfl, rfl⟩
    go_wp2
    go_ret
    exact ⟨rfl, bl9⟩
  rw [modB_4 hA hB hC]
  have HA := Lib.hid hA
  rw [all_any] at hC
  rw [show t.any (fun s => !textB s) = false by simpa using hC] at C1
  clear hA hC
  go_enter Tryz.func236, Tryz.ntmps236
  go_wp2_with fail
  refine (inRange _ HA.out).mono ?_
  rintro e w' ⟨rfl, rfl⟩
  go_wp2_with fail
  refine (C1 _ (ht.below bl9) htm htv).mono ?_
  rintro e w' ⟨rfl, rfl⟩
  go_wp2
  go_loopw [24] (fun i wr => ∃ k : Nat, k ≤ l.length ∧ i = .int .i64 k ∧ Hid (∀ j x, l[j]? = some x → j < k → funcB t.length l.length x = true) ∧ wr.heap[w.heap.size]? = some (.cells #[.slice A t.length c, .slice B l.length d] 36 (0, 0)) ∧ Below w.heap.size w wr) (fun i _ => l.length - (intOf i).toNat)
  case atStart => exact ⟨0, by omega, rfl, (fun j x _ h => by omega), blk_new _ _, bl9⟩
  case round =>
    obtain ⟨k, hk, rfl, ho, hM, hb⟩ := hrel
    have m0 : wr.cell? ⟨w.heap.size, 0, none⟩ = some (.slice A t.length c) := blk_cell hM 0
    have m1 : wr.cell? ⟨w.heap.size, 1, none⟩ = some (.slice B l.length d) := blk_cell hM 1
    have ml := blk_lt hM
    by_cases hlt : k < l.length
    · obtain ⟨x, hx⟩ := get_exU l k hlt
      obtain ⟨hcl, hl1, hl2⟩ := hv x (List.mem_of_getElem? hx)
      obtain ⟨ad, A2, c2, rfl, q0, q1, q2, hq, hr2⟩ := kFunc_at (hr.below hb) k x hx
      have hq2 : (x.code.length : Int) ≤ 1048576 := by omega
      cases h1 : btw x.params 0 6
      · have HE := Lib.hid (all_bad (p := funcB t.length l.length) hx (by simp [funcB, h1]))
        have H1 := Lib.hid h1
        clear hx h1
        go_wp2_with fail
        refine (inRange _ H1.out).mono ?_
        rintro e w' ⟨rfl, rfl⟩
        go_wp2
        go_ret
        exact ⟨ret_bool HE.out.symm, bl9⟩
      cases h2 : btw x.locals x.params 12
      · have HE := Lib.hid (all_bad (p := funcB t.length l.length) hx (by simp [funcB, h2]))
        have H1 := Lib.hid h1
        have H2 := Lib.hid h2
        clear hx h1 h2
        go_wp2_with fail
        refine (inRange _ H1.out).mono ?_
        rintro e w' ⟨rfl, rfl⟩
        go_wp2_with fail
        refine (inRange _ H2.out).mono ?_
        rintro e w' ⟨rfl, rfl⟩
        go_wp2
        go_ret
        exact ⟨ret_bool HE.out.symm, bl9⟩
      cases h3 : btw x.code.length 1 120
      · have HE := Lib.hid (all_bad (p := funcB t.length l.length) hx (by simp [funcB, h3]))
        have H1 := Lib.hid h1
        have H2 := Lib.hid h2
        have H3 := Lib.hid h3
        clear hx h1 h2 h3
        go_wp2_with fail
        refine (inRange _ H1.out).mono ?_
        rintro e w' ⟨rfl, rfl⟩
        go_wp2_with fail
        refine (inRange _ H2.out).mono ?_
        rintro e w' ⟨rfl, rfl⟩
        go_wp2_with fail
        refine (inRange _ H3.out).mono ?_
        rintro e w' ⟨rfl, rfl⟩
        go_wp2
        go_ret
        exact ⟨ret_bool HE.out.symm, bl9⟩
      have C2 := has2 A (some ad) A2 A2 c d c2 c2 t.length l.length x.code.length x.params x.locals x.code w.heap.size wr.heap.size
      cases h4 : x.code.all (fun y => insB t.length l.length x.locals x.code.length y.op y.a)
      · have HE := Lib.hid (all_bad (p := funcB t.length l.length) hx (by simp only [funcB, h4, Bool.and_false]))
        rw [all_any] at h4
        rw [show x.code.any (fun y => !insB t.length l.length x.locals x.code.length y.op y.a) = true by simpa using h4] at C2
        have H1 := Lib.hid h1
        have H2 := Lib.hid h2
        have H3 := Lib.hid h3
        clear hx h1 h2 h3 h4
        go_wp2_with fail
        refine (inRange _ H1.out).mono ?_
        rintro e w' ⟨rfl, rfl⟩
        go_wp2_with fail
        refine (inRange _ H2.out).mono ?_
        rintro e w' ⟨rfl, rfl⟩
        go_wp2_with fail
        refine (inRange _ H3.out).mono ?_
        rintro e w' ⟨rfl, rfl⟩
        go_wp2_with fail
        refine (C2 _ (hr2.below bl9) hcl (by go_keep) (by go_keep) (by go_keep) (by go_keep) (by go_keep) hl1 hl2 htm hm hcl).mono ?_
        rintro e w' ⟨rfl, hb2⟩
        go_wp2
        go_ret
        exact ⟨ret_bool HE.out.symm, bl9⟩
      · have HN := Lib.hid (yes_step ho.out hx (show funcB t.length l.length x = true by simp only [funcB, h1, h2, h3, h4, Bool.and_true]))
        rw [all_any] at h4
        rw [show x.code.any (fun y => !insB t.length l.length x.locals x.code.length y.op y.a) = false by simpa using h4] at C2
        have H1 := Lib.hid h1
        have H2 := Lib.hid h2
        have H3 := Lib.hid h3
        clear hx h1 h2 h3 h4
        go_wp2_with fail
        refine (inRange _ H1.out).mono ?_
        rintro e w' ⟨rfl, rfl⟩
        go_wp2_with fail
        refine (inRange _ H2.out).mono ?_
        rintro e w' ⟨rfl, rfl⟩
        go_wp2_with fail
        refine (inRange _ H3.out).mono ?_
        rintro e w' ⟨rfl, rfl⟩
        go_wp2_with fail
        refine (C2 _ (hr2.below bl9) hcl (by go_keep) (by go_keep) (by go_keep) (by go_keep) (by go_keep) hl1 hl2 htm hm hcl).mono ?_
        rintro e w' ⟨rfl, hb2⟩
        have hM2 := blk_below (blk_alloc hM (.cells #[.int .i64 x.params, .int .i64 x.locals, .slice A2 x.code.length c2] 197 (0, 0))) (by simp; omega) hb2
        go_wp2
        go_roundw
        case rel => exact ⟨k + 1, by omega, by go_num, HN, hM2, bl9⟩
        case measure => simp [intOf]; omega
    · obtain rfl : k = l.length := by omega
      have HE := Lib.hid (all_good (p := funcB t.length l.length) (fun j x h h2 => ho.out j x h h2))
      go_wp2
      go_ret
      exact ⟨ret_bool HE.out.symm, bl9⟩
set_option maxHeartbeats 4000000 in
theorem modOk01 (A B : Option Addr) (c d : Nat) (t : List ByteArray) (l : List DFunc) (w : World) (ht : Knd.str.Row w A t.length t) (hr : kFunc.Row w B l.length l) (htm : t.length ≤ 1048576) (hm : l.length ≤ 1048576) (htv : ∀ x ∈ t, x.size ≤ maxLen) (hv : ∀ x ∈ l, x.code.length ≤ 1048576 ∧ -9223372036854775808 ≤ x.locals ∧ x.locals ≤ 9223372036854775807) :
    Calls Tryz.prog 231 #[.agg #[.slice A t.length c, .slice B l.length d]] w fun e w' => e = .returned (.bool (modB t l)) ∧ Below w.heap.size w w' := by
  cases hA : btw l.length 1 12
  · rw [modB_1 hA]
    have HA := Lib.hid hA
    clear hA
    go_enter Tryz.func231, Tryz.ntmps231
    go_wp2_with (go_at_call 121; refine (between _ HA.out).mono ?_; rintro e w' ⟨rfl, rfl⟩)
    go_ret
    exact ⟨rfl, bl9⟩
  by_cases hB : (t.length : Int) ≤ 20
  rotate_left
  · rw [modB_2 hB]
    have HA := Lib.hid hA
    have hB2 : 20 < (t.length : Int) := by omega
    clear hA hB
    go_enter Tryz.func231, Tryz.ntmps231
    go_wp2_with (go_at_call 121; refine (between _ HA.out).mono ?_; rintro e w' ⟨rfl, rfl⟩)
    go_ret
    exact ⟨rfl, bl9⟩
  have HA := Lib.hid hA
  have HB := Lib.hid hB
  clear hA
  go_enter Tryz.func231, Tryz.ntmps231
  go_wp2_with fail
  refine (between _ HA.out).mono ?_
  rintro e w' ⟨rfl, rfl⟩
  go_wp2
  go_loopw [3] (fun i wr => ∃ k : Nat, k ≤ t.length ∧ i = .int .i64 k ∧ Hid (∀ j x, t[j]? = some x → j < k → textB x = true) ∧ wr.heap[w.heap.size]? = some (.cells #[.slice A t.length c, .slice B l.length d] 36 (0, 0)) ∧ Below w.heap.size w wr) (fun i _ => t.length - (intOf i).toNat)
  case atStart => exact ⟨0, by omega, rfl, (fun j x _ h => by omega), blk_new _ _, bl9⟩
  case round =>
    obtain ⟨k, hk, rfl, ho, hM, hb⟩ := hrel
    have m0 : wr.cell? ⟨w.heap.size, 0, none⟩ = some (.slice A t.length c) := blk_cell hM 0
    have m1 : wr.cell? ⟨w.heap.size, 1, none⟩ = some (.slice B l.length d) := blk_cell hM 1
    have ml := blk_lt hM
    by_cases hlt : k < t.length
    · obtain ⟨x, hx⟩ := get_exU t k hlt
      have hxm := htv x (List.mem_of_getElem? hx)
      obtain ⟨ad, cs, rfl, hK, q⟩ := (ht.below hb).get k x hx
      obtain rfl : cs = [.string x] := hK
      have q0 : wr.cell? (ad.add k) = some (.string x) := by have := q 0 _ rfl; simpa [Knd.str, Knd.scalar] using this
      clear q
      have C := text01 x wr hxm
      cases hp : textB x
      · have HE := Lib.hid (modB_3 (l := l) (all_bad hx hp))
        rw [hp] at C
        clear hx hp
        go_wp2_with fail
        refine C.mono ?_
        rintro e w' ⟨rfl, rfl⟩
        go_wp2
        go_ret
        exact ⟨ret_bool HE.out.symm, bl9⟩
      · have HN := Lib.hid (yes_step ho.out hx hp)
        rw [hp] at C
        clear hx hp
        go_wp2_with fail
        refine C.mono ?_
        rintro e w' ⟨rfl, rfl⟩
        go_wp2
        go_roundw
        case rel => exact ⟨k + 1, by omega, by go_num, HN, hM, bl9⟩
        case measure => simp [intOf]; omega
    · obtain rfl : k = t.length := by omega
      have HT := Lib.hid (modB_4 HA.out HB.out (all_good (p := textB) (fun j x h h2 => ho.out j x h h2)))
      clear ho
      go_wp2
      go_loopw [4] (fun i wr => ∃ k : Nat, k ≤ l.length ∧ i = .int .i64 k ∧ Hid (∀ j x, l[j]? = some x → j < k → funcB t.length l.length x = true) ∧ wr.heap[w.heap.size]? = some (.cells #[.slice A t.length c, .slice B l.length d] 36 (0, 0)) ∧ Below w.heap.size w wr) (fun i _ => l.length - (intOf i).toNat)
      case atStart => exact ⟨0, by omega, rfl, (fun j x _ h => by omega), hM, hb⟩
      case round =>
        clear hM hb m0 m1 ml
        obtain ⟨k, hk, rfl, ho, hM, hb⟩ := hrel
        have m0 : wr.cell? ⟨w.heap.size, 0, none⟩ = some (.slice A t.length c) := blk_cell hM 0
        have m1 : wr.cell? ⟨w.heap.size, 1, none⟩ = some (.slice B l.length d) := blk_cell hM 1
        have ml := blk_lt hM
        by_cases hlt : k < l.length
        · obtain ⟨x, hx⟩ := get_exU l k hlt
          obtain ⟨hcl, hl1, hl2⟩ := hv x (List.mem_of_getElem? hx)
          obtain ⟨ad, A2, c2, rfl, q0, q1, q2, hq, hr2⟩ := kFunc_at (hr.below hb) k x hx
          have hq2 : (x.code.length : Int) ≤ 1048576 := by omega
          cases h1 : btw x.params 0 6
          · have HE := Lib.hid (HT.out.trans (all_bad (p := funcB t.length l.length) hx (by simp [funcB, h1])))
            have H1 := Lib.hid h1
            clear hx h1
            go_wp2_with fail
            refine (between _ H1.out).mono ?_
            rintro e w' ⟨rfl, rfl⟩
            go_wp2
            go_ret
            exact ⟨ret_bool HE.out.symm, bl9⟩
          cases h2 : btw x.locals x.params 12
          · have HE := Lib.hid (HT.out.trans (all_bad (p := funcB t.length l.length) hx (by simp [funcB, h2])))
            have H1 := Lib.hid h1
            have H2 := Lib.hid h2
            clear hx h1 h2
            go_wp2_with fail
            refine (between _ H1.out).mono ?_
            rintro e w' ⟨rfl, rfl⟩
            go_wp2_with fail
            refine (between _ H2.out).mono ?_
            rintro e w' ⟨rfl, rfl⟩
            go_wp2
            go_ret
            exact ⟨ret_bool HE.out.symm, bl9⟩
          cases h3 : btw x.code.length 1 120
          · have HE := Lib.hid (HT.out.trans (all_bad (p := funcB t.length l.length) hx (by simp [funcB, h3])))
            have H1 := Lib.hid h1
            have H2 := Lib.hid h2
            have H3 := Lib.hid h3
            clear hx h1 h2 h3
            go_wp2_with fail
            refine (between _ H1.out).mono ?_
            rintro e w' ⟨rfl, rfl⟩
            go_wp2_with fail
            refine (between _ H2.out).mono ?_
            rintro e w' ⟨rfl, rfl⟩
            go_wp2_with fail
            refine (between _ H3.out).mono ?_
            rintro e w' ⟨rfl, rfl⟩
            go_wp2
            go_ret
            exact ⟨ret_bool HE.out.symm, bl9⟩
          have HX := Lib.hid hx
          have H1 := Lib.hid h1
          have H2 := Lib.hid h2
          have H3 := Lib.hid h3
          have hgs : w.heap.size < wr.heap.size := ml
          have hrl := hr.2.1
          have hM2 := blk_alloc hM (.cells #[.int .i64 x.params, .int .i64 x.locals, .slice A2 x.code.length c2] 197 (0, 0))
          have hG2 := blk_new wr (.cells #[.int .i64 x.params, .int .i64 x.locals, .slice A2 x.code.length c2] 197 (0, 0))
          have hb2 : Below w.heap.size w (wr.alloc (.cells #[.int .i64 x.params, .int .i64 x.locals, .slice A2 x.code.length c2] 197 (0, 0))) := bl9
          have hr3 := hr2.below ((Below.refl _ _).alloc (Nat.le_refl _) (.cells #[.int .i64 x.params, .int .i64 x.locals, .slice A2 x.code.length c2] 197 (0, 0)))
          clear hx h1 h2 h3
          go_wp2_with fail
          refine (between _ H1.out).mono ?_
          rintro e w' ⟨rfl, rfl⟩
          go_wp2_with fail
          refine (between _ H2.out).mono ?_
          rintro e w' ⟨rfl, rfl⟩
          go_wp2_with fail
          refine (between _ H3.out).mono ?_
          rintro e w' ⟨rfl, rfl⟩
          go_wp2
          generalize wr.alloc _ = w3 at hM2 hG2 hb2 hr3 ⊢
          generalize wr.heap.size = g2 at hG2 hgs ⊢
          go_loopw [6] (fun i wq => ∃ n : Nat, n ≤ x.code.length ∧ i = .int .i64 n ∧ Hid (∀ j y, x.code[j]? = some y → j < n → insB t.length l.length x.locals x.code.length y.op y.a = true) ∧ wq.heap[w.heap.size]? = some (.cells #[.slice A t.length c, .slice (some ad) l.length d] 36 (0, 0)) ∧ wq.heap[g2]? = some (.cells #[.int .i64 x.params, .int .i64 x.locals, .slice A2 x.code.length c2] 197 (0, 0)) ∧ kIns.Row wq A2 x.code.length x.code ∧ Below w.heap.size w wq) (fun i _ => x.code.length - (intOf i).toNat)
          case atStart => exact ⟨0, by omega, rfl, (fun j x _ h => by omega), hM2, hG2, hr3, hb2⟩
          case round =>
            clear hM2 hG2 hb2 hr3
            obtain ⟨n, hn, rfl, ho2, hM2, hG2, hr3, hb2⟩ := hrel
            have mm0 : wr.cell? ⟨w.heap.size, 0, none⟩ = some (.slice A t.length c) := blk_cell hM2 0
            have mm1 : wr.cell? ⟨w.heap.size, 1, none⟩ = some (.slice (some ad) l.length d) := blk_cell hM2 1
            have gg2 : wr.cell? ⟨g2, 2, none⟩ = some (.slice A2 x.code.length c2) := blk_cell hG2 2
            have ml2 := blk_lt hM2
            have gl2 := blk_lt hG2
            by_cases hlt2 : n < x.code.length
            · obtain ⟨y, hy⟩ := get_exU x.code n hlt2
              obtain ⟨ad2, rfl, r0, r1⟩ := kIns_at hr3 n y hy
              have C := insOk03 A (some ad) c d t l k y.op y.a
              rw [insAt_at HX.out] at C
              cases hp : insB t.length l.length x.locals x.code.length y.op y.a
              · have HE := Lib.hid (HT.out.trans (all_bad (p := funcB t.length l.length) HX.out (by simp only [funcB, all_bad (p := fun y : DIns => insB t.length l.length x.locals x.code.length y.op y.a) hy hp, Bool.and_false])))
                rw [hp] at C
                clear hy hp
                go_wp2
                go_region_held3 (fun w' => w'.cell? ⟨w.heap.size, 0, none⟩ = some (.slice A t.length c) ∧ w'.cell? ⟨w.heap.size, 1, none⟩ = some (.slice (some ad) l.length d) ∧ w'.cell? ⟨g2, 2, none⟩ = some (.slice (some ad2) x.code.length c2) ∧ w'.cell? (ad2.add (n * 2)) = some (.int .i64 y.op) ∧ w'.cell? ⟨(ad2.add (n * 2)).block, (ad2.add (n * 2)).off + 1, none⟩ = some (.int .i64 y.a) ∧ Below w.heap.size w w') ((refine ⟨?_, ?_, ?_, ?_, ?_, ?_⟩ <;> first | assumption | (go_keep; done) | (refine kept hb3 ?_; go_keep; done) | exact bl9)) (first | (go_at_call 316; refine (C _ (hr.below bl9) htm hm hv).mono ?_; rintro e w' ⟨rfl, hb3⟩; have hb4 : Below wr.heap.size wr w' := bl9))
                go_wp2
                go_ret
                exact ⟨ret_bool HE.out.symm, bl9⟩
              · have HN := Lib.hid (yes_step (p := fun y : DIns => insB t.length l.length x.locals x.code.length y.op y.a) ho2.out hy hp)
                rw [hp] at C
                clear hy hp
                go_wp2
                go_region_held3 (fun w' => w'.cell? ⟨w.heap.size, 0, none⟩ = some (.slice A t.length c) ∧ w'.cell? ⟨w.heap.size, 1, none⟩ = some (.slice (some ad) l.length d) ∧ w'.cell? ⟨g2, 2, none⟩ = some (.slice (some ad2) x.code.length c2) ∧ w'.cell? (ad2.add (n * 2)) = some (.int .i64 y.op) ∧ w'.cell? ⟨(ad2.add (n * 2)).block, (ad2.add (n * 2)).off + 1, none⟩ = some (.int .i64 y.a) ∧ Below w.heap.size w w') ((refine ⟨?_, ?_, ?_, ?_, ?_, ?_⟩ <;> first | assumption | (go_keep; done) | (refine kept hb3 ?_; go_keep; done) | exact bl9)) (first | (go_at_call 316; refine (C _ (hr.below bl9) htm hm hv).mono ?_; rintro e w' ⟨rfl, hb3⟩; have hb4 : Below wr.heap.size wr w' := bl9))
                go_wp2
                go_roundw
                case rel => exact ⟨n + 1, by omega, by go_num, HN, blk_below hM2 ml2 hb4, blk_below hG2 gl2 hb4, hr3.below hb4, bl9⟩
                case measure => simp [intOf]; omega
            · obtain rfl : n = x.code.length := by omega
              have HN := Lib.hid (yes_step ho.out HX.out (show funcB t.length l.length x = true by simp only [funcB, H1.out, H2.out, H3.out, all_good (p := fun y : DIns => insB t.length l.length x.locals x.code.length y.op y.a) (fun j x h h2 => ho2.out j x h h2), Bool.and_true]))
              go_wp2
              go_roundw
              case rel => exact ⟨k + 1, by omega, by go_num, HN, hM2, bl9⟩
              case measure => simp [intOf]; omega
        · obtain rfl : k = l.length := by omega
          have HE := Lib.hid (HT.out.trans (all_good (p := funcB t.length l.length) (fun j x h h2 => ho.out j x h h2)))
          go_wp2
          go_ret
          exact ⟨ret_bool HE.out.symm, bl9⟩
end Go.Proofs.YthinhlcfpaaldaaGreat.Dat
