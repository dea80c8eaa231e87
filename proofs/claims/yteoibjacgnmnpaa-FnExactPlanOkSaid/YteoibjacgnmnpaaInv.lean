/- What a straight walk keeps: old memory, and the boxes that the function has made. -/
import Derived.Test.YteoibjacgnmnpaaMem
import Derived.Test.YteoibjacgnmnpaaWLast
namespace Go.Proofs.Yteoibjacgnmnpaa.Mem
open Go Go.RowKit
set_option linter.unusedVariables false
set_option linter.unusedSimpArgs false

/-- What stays where nothing old is turned. -/
def Stab (R : World → Prop) : Prop := ∀ W W', Below W.heap.size W W' → R W → R W'
theorem Stab.true : Stab (fun _ => True) := fun _ _ _ h => h
theorem Stab.and {R R' : World → Prop} (h : Stab R) (h' : Stab R') : Stab (fun W => R W ∧ R' W) := fun W W' hb k => ⟨h W W' hb k.1, h' W W' hb k.2⟩
theorem Stab.row {α : Type} (d : Knd α) (A : Option Addr) (n : Nat) (xs : List α) : Stab (fun W => d.Row W A n xs) := fun _ _ hb h => h.below hb
theorem Stab.own {α : Type} (d : Knd α) (e : Nat) (v : Value) (xs : List α) (F : List Nat) : Stab (fun W => d.Own e W v xs F) := fun _ _ hb h => Knd.O_frame (Knd.slice e d) (cs := [v]) (fun g hg => hb.block g (h.lt g hg)) ⟨v, rfl, h⟩ |>.elim (fun u hu => by
  obtain ⟨h1, h2⟩ := hu
  have : u = v := by simpa using h1.symm
  subst this
  exact h2)
theorem Stab.const (p : Prop) : Stab (fun _ => p) := fun _ _ _ h => h
/-- Since w nothing old has turned, these blocks stand, and so do these facts. -/
structure Inv (w : World) (L : List (Nat × Obj)) (R : World → Prop) (W : World) : Prop where
  bel : Below w.heap.size w W
  box : ∀ p ∈ L, W.heap[p.1]? = some p.2
  rows : R W
  stab : Stab R
namespace Inv
variable {w W W' : World} {L : List (Nat × Obj)} {R : World → Prop}
theorem start (w : World) : Inv w [] (fun _ => True) w := ⟨Below.refl _ _, fun p h => by simp at h, trivial, Stab.true⟩
theorem step (h : Inv w L R W) (hb : Below W.heap.size W W') : Inv w L R W' := ⟨bl_step h.bel hb, fun p hp => blk_below (h.box p hp) (blk_lt (h.box p hp)) hb, h.stab _ _ hb h.rows, h.stab⟩
theorem bl_drew' (W : World) : Below W.heap.size W W.drew := (Below.refl _ _).drew
theorem drew (h : Inv w L R W) : Inv w L R W.drew := h.step (bl_drew' W)
theorem alloc (h : Inv w L R W) (o : Obj) : Inv w L R (W.alloc o) := h.step ((Below.refl _ _).alloc (Nat.le_refl _) _)
theorem made (h : Inv w L R W) (o : Obj) (g : Nat) (hg : g = W.heap.size) : Inv w ((g, o) :: L) R (W.alloc o) := ⟨(h.alloc o).bel, fun p hp => by
  subst hg
  rcases List.mem_cons.1 hp with rfl | hp
  · exact blk_new W o
  · exact (h.alloc o).box p hp, (h.alloc o).rows, h.stab⟩
theorem add (h : Inv w L R W) {R' : World → Prop} (s : Stab R') (h' : R' W) : Inv w L (fun W => R' W ∧ R W) W := ⟨h.bel, h.box, ⟨h', h.rows⟩, s.and h.stab⟩
theorem at_ (h : Inv w L R W) (k : Nat) {g : Nat} {o : Obj} (hk : L[k]? = some (g, o)) : W.heap[g]? = some o := h.box (g, o) (List.mem_of_getElem? hk)
theorem cell (h : Inv w L R W) (k : Nat) {g : Nat} {cs : Array Value} {t : TypeId} (hk : L[k]? = some (g, .cells cs t (0, 0))) : ∀ i, W.cell? ⟨g, i, none⟩ = cs[i]? := blk_cell (h.at_ k hk)
theorem free (h : Inv w L R W) (k : Nat) {g : Nat} {cs : Array Value} {t : TypeId} (hk : L[k]? = some (g, .cells cs t (0, 0))) : ∀ i, W.frozen? ⟨g, i, none⟩ = false := blk_frozen (h.at_ k hk)
theorem lt (h : Inv w L R W) (k : Nat) {g : Nat} {o : Obj} (hk : L[k]? = some (g, o)) : g < W.heap.size := blk_lt (h.at_ k hk)
theorem cons (h : Inv w L R W) {g : Nat} {o : Obj} (hb : W.heap[g]? = some o) : Inv w ((g, o) :: L) R W := ⟨h.bel, fun p hp => by
  rcases List.mem_cons.1 hp with rfl | hp
  · exact hb
  · exact h.box p hp, h.rows, h.stab⟩
end Inv
/-- A block that has come since some world in which all else stood already. -/
structure New (w : World) (L : List (Nat × Obj)) (R : World → Prop) (g : Nat) (o : Obj) (W : World) : Prop where
  old : w.heap.size ≤ g
  ne : ∀ p ∈ L, p.1 ≠ g
  from_ : ∃ w0 : World, w0.heap.size ≤ g ∧ Inv w L R w0 ∧ Below w0.heap.size w0 W
  blk : W.heap[g]? = some o
namespace New
variable {w W W' : World} {L : List (Nat × Obj)} {R : World → Prop} {g : Nat} {o : Obj}
theorem made (h : Inv w L R W) (o : Obj) : New w L R W.heap.size o (W.alloc o) := ⟨h.bel.size, fun p hp e => by have := blk_lt (h.box p hp); omega, ⟨W, Nat.le_refl _, h, (Below.refl _ _).alloc (Nat.le_refl _) _⟩, blk_new W o⟩
theorem step (h : New w L R g o W) (hb : Below W.heap.size W W') : New w L R g o W' := ⟨h.old, h.ne, by
  obtain ⟨w0, a, b, c⟩ := h.from_
  exact ⟨w0, a, b, bl_step c hb⟩, blk_below h.blk (blk_lt h.blk) hb⟩
theorem cell {cs : Array Value} {t : TypeId} (h : New w L R g (.cells cs t (0, 0)) W) : ∀ i, W.cell? ⟨g, i, none⟩ = cs[i]? := blk_cell h.blk
theorem free {cs : Array Value} {t : TypeId} (h : New w L R g (.cells cs t (0, 0)) W) : ∀ i, W.frozen? ⟨g, i, none⟩ = false := blk_frozen h.blk
theorem set {cs : Array Value} {t : TypeId} (h : New w L R g (.cells cs t (0, 0)) W) (i : Nat) (u : Value) : New w L R g (.cells (cs.setIfInBounds i u) t (0, 0)) (W.setCell ⟨g, i, none⟩ u) := ⟨h.old, h.ne, by
  obtain ⟨w0, a, b, c⟩ := h.from_
  exact ⟨w0, a, b, bl_set c a u⟩, blk_set h.blk i u⟩
theorem inv (h : New w L R g o W) : Inv w L R W := by
  obtain ⟨w0, a, b, c⟩ := h.from_
  exact b.step c
theorem put1 {t : TypeId} {z0 u0 : Value} (h : New w L R g (.cells #[z0] t (0, 0)) W) : New w L R g (.cells #[u0] t (0, 0)) (W.setCell ⟨g, 0, none⟩ u0) := by simpa using (h.set 0 u0)
theorem put2 {t : TypeId} {z0 z1 u0 u1 : Value} (h : New w L R g (.cells #[z0, z1] t (0, 0)) W) : New w L R g (.cells #[u0, u1] t (0, 0)) ((W.setCell ⟨g, 0, none⟩ u0).setCell ⟨g, 1, none⟩ u1) := by simpa using ((h.set 0 u0).set 1 u1)
theorem put3 {t : TypeId} {z0 z1 z2 u0 u1 u2 : Value} (h : New w L R g (.cells #[z0, z1, z2] t (0, 0)) W) : New w L R g (.cells #[u0, u1, u2] t (0, 0)) (((W.setCell ⟨g, 0, none⟩ u0).setCell ⟨g, 1, none⟩ u1).setCell ⟨g, 2, none⟩ u2) := by simpa using (((h.set 0 u0).set 1 u1).set 2 u2)
theorem put4 {t : TypeId} {z0 z1 z2 z3 u0 u1 u2 u3 : Value} (h : New w L R g (.cells #[z0, z1, z2, z3] t (0, 0)) W) : New w L R g (.cells #[u0, u1, u2, u3] t (0, 0)) ((((W.setCell ⟨g, 0, none⟩ u0).setCell ⟨g, 1, none⟩ u1).setCell ⟨g, 2, none⟩ u2).setCell ⟨g, 3, none⟩ u3) := by simpa using ((((h.set 0 u0).set 1 u1).set 2 u2).set 3 u3)
theorem put5 {t : TypeId} {z0 z1 z2 z3 z4 u0 u1 u2 u3 u4 : Value} (h : New w L R g (.cells #[z0, z1, z2, z3, z4] t (0, 0)) W) : New w L R g (.cells #[u0, u1, u2, u3, u4] t (0, 0)) (((((W.setCell ⟨g, 0, none⟩ u0).setCell ⟨g, 1, none⟩ u1).setCell ⟨g, 2, none⟩ u2).setCell ⟨g, 3, none⟩ u3).setCell ⟨g, 4, none⟩ u4) := by simpa using (((((h.set 0 u0).set 1 u1).set 2 u2).set 3 u3).set 4 u4)
theorem put6 {t : TypeId} {z0 z1 z2 z3 z4 z5 u0 u1 u2 u3 u4 u5 : Value} (h : New w L R g (.cells #[z0, z1, z2, z3, z4, z5] t (0, 0)) W) : New w L R g (.cells #[u0, u1, u2, u3, u4, u5] t (0, 0)) ((((((W.setCell ⟨g, 0, none⟩ u0).setCell ⟨g, 1, none⟩ u1).setCell ⟨g, 2, none⟩ u2).setCell ⟨g, 3, none⟩ u3).setCell ⟨g, 4, none⟩ u4).setCell ⟨g, 5, none⟩ u5) := by simpa using ((((((h.set 0 u0).set 1 u1).set 2 u2).set 3 u3).set 4 u4).set 5 u5)
theorem put7 {t : TypeId} {z0 z1 z2 z3 z4 z5 z6 u0 u1 u2 u3 u4 u5 u6 : Value} (h : New w L R g (.cells #[z0, z1, z2, z3, z4, z5, z6] t (0, 0)) W) : New w L R g (.cells #[u0, u1, u2, u3, u4, u5, u6] t (0, 0)) (((((((W.setCell ⟨g, 0, none⟩ u0).setCell ⟨g, 1, none⟩ u1).setCell ⟨g, 2, none⟩ u2).setCell ⟨g, 3, none⟩ u3).setCell ⟨g, 4, none⟩ u4).setCell ⟨g, 5, none⟩ u5).setCell ⟨g, 6, none⟩ u6) := by simpa using (((((((h.set 0 u0).set 1 u1).set 2 u2).set 3 u3).set 4 u4).set 5 u5).set 6 u6)
theorem put8 {t : TypeId} {z0 z1 z2 z3 z4 z5 z6 z7 u0 u1 u2 u3 u4 u5 u6 u7 : Value} (h : New w L R g (.cells #[z0, z1, z2, z3, z4, z5, z6, z7] t (0, 0)) W) : New w L R g (.cells #[u0, u1, u2, u3, u4, u5, u6, u7] t (0, 0)) ((((((((W.setCell ⟨g, 0, none⟩ u0).setCell ⟨g, 1, none⟩ u1).setCell ⟨g, 2, none⟩ u2).setCell ⟨g, 3, none⟩ u3).setCell ⟨g, 4, none⟩ u4).setCell ⟨g, 5, none⟩ u5).setCell ⟨g, 6, none⟩ u6).setCell ⟨g, 7, none⟩ u7) := by simpa using ((((((((h.set 0 u0).set 1 u1).set 2 u2).set 3 u3).set 4 u4).set 5 u5).set 6 u6).set 7 u7)
theorem put9 {t : TypeId} {z0 z1 z2 z3 z4 z5 z6 z7 z8 u0 u1 u2 u3 u4 u5 u6 u7 u8 : Value} (h : New w L R g (.cells #[z0, z1, z2, z3, z4, z5, z6, z7, z8] t (0, 0)) W) : New w L R g (.cells #[u0, u1, u2, u3, u4, u5, u6, u7, u8] t (0, 0)) (((((((((W.setCell ⟨g, 0, none⟩ u0).setCell ⟨g, 1, none⟩ u1).setCell ⟨g, 2, none⟩ u2).setCell ⟨g, 3, none⟩ u3).setCell ⟨g, 4, none⟩ u4).setCell ⟨g, 5, none⟩ u5).setCell ⟨g, 6, none⟩ u6).setCell ⟨g, 7, none⟩ u7).setCell ⟨g, 8, none⟩ u8) := by simpa using (((((((((h.set 0 u0).set 1 u1).set 2 u2).set 3 u3).set 4 u4).set 5 u5).set 6 u6).set 7 u7).set 8 u8)
theorem put10 {t : TypeId} {z0 z1 z2 z3 z4 z5 z6 z7 z8 z9 u0 u1 u2 u3 u4 u5 u6 u7 u8 u9 : Value} (h : New w L R g (.cells #[z0, z1, z2, z3, z4, z5, z6, z7, z8, z9] t (0, 0)) W) : New w L R g (.cells #[u0, u1, u2, u3, u4, u5, u6, u7, u8, u9] t (0, 0)) ((((((((((W.setCell ⟨g, 0, none⟩ u0).setCell ⟨g, 1, none⟩ u1).setCell ⟨g, 2, none⟩ u2).setCell ⟨g, 3, none⟩ u3).setCell ⟨g, 4, none⟩ u4).setCell ⟨g, 5, none⟩ u5).setCell ⟨g, 6, none⟩ u6).setCell ⟨g, 7, none⟩ u7).setCell ⟨g, 8, none⟩ u8).setCell ⟨g, 9, none⟩ u9) := by simpa using ((((((((((h.set 0 u0).set 1 u1).set 2 u2).set 3 u3).set 4 u4).set 5 u5).set 6 u6).set 7 u7).set 8 u8).set 9 u9)
theorem put11 {t : TypeId} {z0 z1 z2 z3 z4 z5 z6 z7 z8 z9 z10 u0 u1 u2 u3 u4 u5 u6 u7 u8 u9 u10 : Value} (h : New w L R g (.cells #[z0, z1, z2, z3, z4, z5, z6, z7, z8, z9, z10] t (0, 0)) W) : New w L R g (.cells #[u0, u1, u2, u3, u4, u5, u6, u7, u8, u9, u10] t (0, 0)) (((((((((((W.setCell ⟨g, 0, none⟩ u0).setCell ⟨g, 1, none⟩ u1).setCell ⟨g, 2, none⟩ u2).setCell ⟨g, 3, none⟩ u3).setCell ⟨g, 4, none⟩ u4).setCell ⟨g, 5, none⟩ u5).setCell ⟨g, 6, none⟩ u6).setCell ⟨g, 7, none⟩ u7).setCell ⟨g, 8, none⟩ u8).setCell ⟨g, 9, none⟩ u9).setCell ⟨g, 10, none⟩ u10) := by simpa using (((((((((((h.set 0 u0).set 1 u1).set 2 u2).set 3 u3).set 4 u4).set 5 u5).set 6 u6).set 7 u7).set 8 u8).set 9 u9).set 10 u10)
theorem put12 {t : TypeId} {z0 z1 z2 z3 z4 z5 z6 z7 z8 z9 z10 z11 u0 u1 u2 u3 u4 u5 u6 u7 u8 u9 u10 u11 : Value} (h : New w L R g (.cells #[z0, z1, z2, z3, z4, z5, z6, z7, z8, z9, z10, z11] t (0, 0)) W) : New w L R g (.cells #[u0, u1, u2, u3, u4, u5, u6, u7, u8, u9, u10, u11] t (0, 0)) ((((((((((((W.setCell ⟨g, 0, none⟩ u0).setCell ⟨g, 1, none⟩ u1).setCell ⟨g, 2, none⟩ u2).setCell ⟨g, 3, none⟩ u3).setCell ⟨g, 4, none⟩ u4).setCell ⟨g, 5, none⟩ u5).setCell ⟨g, 6, none⟩ u6).setCell ⟨g, 7, none⟩ u7).setCell ⟨g, 8, none⟩ u8).setCell ⟨g, 9, none⟩ u9).setCell ⟨g, 10, none⟩ u10).setCell ⟨g, 11, none⟩ u11) := by simpa using ((((((((((((h.set 0 u0).set 1 u1).set 2 u2).set 3 u3).set 4 u4).set 5 u5).set 6 u6).set 7 u7).set 8 u8).set 9 u9).set 10 u10).set 11 u11)
end New
end Go.Proofs.Yteoibjacgnmnpaa.Mem
