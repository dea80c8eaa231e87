/- Rows of one cell an element among the resources: read, written, appended to. -/
import Derived.Test.YteoibjacgnmnpaaSt
import Derived.Test.YteoibjacgnmnpaaRep
import Derived.Lib.Hide
namespace Go.Proofs.Yteoibjacgnmnpaa.Mem
open Go Go.RowKit
set_option linter.unusedVariables false
set_option linter.unusedSimpArgs false
namespace Knd
section
variable {α : Type} {enc : α → Value} {h1 : ∀ x, (enc x).oneCell' = true} {e : Nat} {w : World} {g n c : Nat} {xs : List α} {F : List Nat}
theorem Own.cell1 (h : Own (scalar enc h1) e w (.slice (some ⟨g, 0, none⟩) n c) xs F) (k : Nat) (x : α) (hx : xs[k]? = some x) : w.cell? ⟨g, k, none⟩ = some (enc x) := by
  obtain ⟨A, c', hv, _, hr⟩ := h.row
  obtain ⟨ad, hA, hc⟩ := hr.one k x hx
  cases hv
  cases hA
  rw [← hc]
  congr 1
  unfold Addr.add
  split <;> simp_all
theorem Own.free1 (h : Own (scalar enc h1) e w (.slice (some ⟨g, 0, none⟩) n c) xs F) (k : Nat) : w.frozen? ⟨g, k, none⟩ = false := by
  obtain ⟨Fs, hF, _⟩ := h.fs
  exact hF.free k
theorem Own.put1 (h : Own (scalar enc h1) e w (.slice (some ⟨g, 0, none⟩) n c) xs F) (k : Nat) (hk : k < xs.length) (x : α) : Own (scalar enc h1) e (w.setCell ⟨g, k, none⟩ (enc x)) (.slice (some ⟨g, 0, none⟩) n c) (xs.set k x) F := by
  have hF := flat_own h
  obtain ⟨Fs, hO, _⟩ := h.fs
  have hp := (hO.put k hk [enc x] x [] ⟨rfl, rfl⟩ (by simp) (by rw [flat_nil hO]; simp)).own
  rw [flat_own hp, ← hF] at hp
  have e1 : k * (scalar enc h1).sz = k := Nat.mul_one k
  rw [e1] at hp
  exact hp
end
end Knd
theorem own_form {α : Type} {d : Knd α} {e : Nat} {w : World} {v : Value} {xs : List α} {F : List Nat} (h : d.Own e w v xs F) (hn : 0 < xs.length) : ∃ g c, v = .slice (some ⟨g, 0, none⟩) xs.length c ∧ g ∈ F := by
  obtain ⟨inner, Fs, ho, hr, rfl⟩ := h
  rcases ho.2 with ⟨_, h0⟩ | ⟨g, cap, cur, hv, _⟩
  · omega
  · exact ⟨g, cap, hv, by simp [hv, Value.ownBlock]⟩
theorem own_len {α : Type} {d : Knd α} {e : Nat} {w : World} {A : Option Addr} {n c : Nat} {xs : List α} {F : List Nat} (h : d.Own e w (.slice A n c) xs F) : n = xs.length := by
  obtain ⟨A', c', hv, _⟩ := h.row
  cases hv
  rfl
theorem blkAt (W : World) (o : Obj) {g : Nat} (hg : W.heap.size = g) : (W.alloc o).heap[g]? = some o := hg ▸ blk_new W o
namespace St
variable {w W W' : World} {L : List Res} {α : Type} {enc : α → Value} {h1 : ∀ x, (enc x).oneCell' = true} {e : Nat} {g n c : Nat} {xs : List α} {F : List Nat}
theorem cell1 (h : St w L W) (i : Nat) (hi : L[i]? = some (Res.own (Knd.scalar enc h1) e (.slice (some ⟨g, 0, none⟩) n c) xs F)) (k : Nat) (x : α) (hx : xs[k]? = some x) : W.cell? ⟨g, k, none⟩ = some (enc x) := Knd.Own.cell1 (h.get i hi) k x hx
theorem cellR {A : Option Addr} (h : St w L W) (i : Nat) (hi : L[i]? = some (Res.own (Knd.scalar enc h1) e (.slice A n c) xs F)) (k : Nat) (x : α) (hx : xs[k]? = some x) : ∃ ad, A = some ad ∧ W.cell? (ad.add k) = some (enc x) := by
  obtain ⟨A', c', hv, _, hr⟩ := h.row i hi
  cases hv
  exact hr.one k x hx
theorem free1 (h : St w L W) (i : Nat) (hi : L[i]? = some (Res.own (Knd.scalar enc h1) e (.slice (some ⟨g, 0, none⟩) n c) xs F)) (k : Nat) : W.frozen? ⟨g, k, none⟩ = false := Knd.Own.free1 (h.get i hi) k
theorem put1 (h : St w L W) (i : Nat) (hi : L[i]? = some (Res.own (Knd.scalar enc h1) e (.slice (some ⟨g, 0, none⟩) n c) xs F)) (k : Nat) (hk : k < xs.length) (x : α) : St w (L.set i (Res.own (Knd.scalar enc h1) e (.slice (some ⟨g, 0, none⟩) n c) (xs.set k x) F)) (W.setCell ⟨g, k, none⟩ (enc x)) := by
  have ho : (Knd.scalar enc h1).Own e W (.slice (some ⟨g, 0, none⟩) n c) xs F := h.get i hi
  have hg : g ∈ F := by
    rw [Knd.flat_own ho]
    simp [Value.ownBlock]
  have hnd : F.Nodup := by
    have := h.nodup i hi
    exact this
  exact h.upd i hi ((But.refl _ _).set hg _ _) (ho.put1 k hk x) hnd (fun q hq => .inl hq)
theorem app1 {v : Value} {w' : World} {g cap m : Nat} {y : α} (h : St w L W) (i : Nat) (hi : L[i]? = some (Res.own (Knd.scalar enc h1) e v xs F)) (hO : (Knd.scalar enc h1).Own e w' (.slice (some ⟨g, 0, none⟩) m cap) (xs ++ [y]) [g]) (hB : But F W w') (hg : g ∈ F ∨ g = W.heap.size) : St w (L.set i (Res.own (Knd.scalar enc h1) e (.slice (some ⟨g, 0, none⟩) m cap) (xs ++ [y]) [g])) w' :=
  h.upd i hi hB hO (by simp [Res.own]) (fun q hq => by
    rw [List.mem_singleton.1 hq]
    rcases hg with hg | hg
    · exact .inl hg
    · exact .inr (by omega))
theorem own_ {d : Knd α} {v : Value} (h : St w L W) (i : Nat) (hi : L[i]? = some (Res.own d e v xs F)) : d.Own e W v xs F := h.get i hi
theorem litAt (h : St w L W) (xs : List α) (cs : Array Value) (hcs : cs = (xs.map enc).toArray) (g : Nat) (hg : W.heap.size = g) (n : Nat) (hn : n = xs.length) (hm : xs.length ≤ 1000) : St w (Res.own (Knd.scalar enc h1) e (.slice (some ⟨g, 0, none⟩) n n) xs [g] :: L) (W.alloc (.cells cs e (0, 0))) := by
  subst hcs hg hn
  exact h.new ((Below.refl _ _).alloc (Nat.le_refl _) _) (Knd.own_lit e W xs (by unfold maxLen; omega)) (by simp [Res.own]) (by simp [Res.own])
theorem al (h : St w L W) (o : Obj) : St w L (W.alloc o) := h.step ((Below.refl _ _).alloc (Nat.le_refl _) o)
end St
/-- A row just made. -/
theorem St.madeRow {w W W' : World} {L : List Res} {α : Type} {enc : α → Value} {h1 : ∀ x, (enc x).oneCell' = true} {e : Nat} {g n c : Nat} {xs : List α} {Fs : List (List Nat)} (h : St w L W) (ho : Knd.OwnF (Knd.scalar enc h1) e W' (.slice (some ⟨g, 0, none⟩) n c) xs Fs) (hg : g = W.heap.size) (hb : Below W.heap.size W W') : St w (Res.own (Knd.scalar enc h1) e (.slice (some ⟨g, 0, none⟩) n c) xs [g] :: L) W' := by
  have h2 := ho.own
  rw [Knd.flat_own h2] at h2
  have e1 : (Value.slice (some (⟨g, 0, none⟩ : Addr)) n c).ownBlock.toList = [g] := rfl
  rw [e1] at h2
  exact h.new hb h2 (by simp [Res.own]) (by simp [Res.own, hg])
/-- What a call hands back as a new row, laid among the resources. -/
theorem St.newRow {w W W' : World} {L : List Res} {α : Type} {d : Knd α} {e : Nat} {xs : List α} {en : Ending} (h : St w L W) (hn : NewRow d e xs W en W') : ∃ v F, en = .returned v ∧ St w (Res.own d e v xs F :: L) W' := by
  obtain ⟨v, F, rfl, ho, hnd, hF, hb⟩ := hn
  exact ⟨v, F, rfl, h.new hb ho hnd hF⟩
/-- The end: a row handed back. -/
theorem St.outRow {w W : World} {L : List Res} {α : Type} {d : Knd α} {e : Nat} {v : Value} {xs : List α} {F : List Nat} (h : St w L W) (i : Nat) (hi : L[i]? = some (Res.own d e v xs F)) : NewRow d e xs w (.returned v) W :=
  ⟨v, F, rfl, h.get i hi, h.nodup i hi, h.olds i hi, h.bel⟩
end Go.Proofs.Yteoibjacgnmnpaa.Mem
