/- A bundle: App Num Save SaveBy SaveI Bytes St VerP Rep St1 MarkB Nxt Dep Dep3. -/
import Derived.Test.YthinhlcfpaaldaaGreatK1
import Derived.Deep.AppendLies
import Derived.Lib.AppendStr
import Derived.Test.YthinhlcfpaaldaaGreatProg
import Derived.WalkLawsBesides
import Derived.WalkSpells
import Derived.Deep.LoopGhost
import Derived.Lib.Hide
import Derived.Deep.RegionHeld3
import Derived.Laws.CopyOwn
import Derived.Laws.BitsLemmas
import Derived.Deep.RegionLaw
/- append to a row of the call's own, with footprints. -/
namespace Go.Proofs.YthinhlcfpaaldaaGreat.Mem
open Go Go.RowKit
set_option linter.unusedVariables false
set_option linter.unusedSimpArgs false
theorem But.grown {w w' : World} {row : Option Nat} (h : w.grownBy w' row) : But row.toList w w' := ⟨h.os, h.tape, h.output, h.size, fun k hk hn => h.block k hk (fun e => hn (by rw [← e]; simp))⟩
theorem But.then {F F' : List Nat} {w w1 w2 : World} (h : But F w w1) (k : But F' w1 w2) (hF : ∀ g ∈ F', g ∈ F ∨ w.heap.size ≤ g) : But F w w2 :=
  ⟨k.os.trans h.os, k.tape.trans h.tape, k.output.trans h.output, Nat.le_trans h.size k.size, fun i hi hn => (k.block i (Nat.lt_of_lt_of_le hi h.size) (fun hm => by
    rcases hF i hm with h1 | h1
    · exact hn h1
    · omega)).trans (h.block i hi hn)⟩
namespace Knd
section
variable {α : Type} {d : Knd α} {e : Nat} {w w1 : World} {v : Value} {xs zs : List α} {F : List Nat} {Fs Gs : List (List Nat)} {cs cs' : List Value}
theorem Els.append (h : Els d w xs cs Fs) (h' : Els d w zs cs' Gs) : Els d w (xs ++ zs) (cs ++ cs') (Fs ++ Gs) := by
  refine ⟨by rw [List.length_append, List.length_append, h.1, h'.1, Nat.add_mul], by rw [List.length_append, List.length_append, h.2.1, h'.2.1], fun j p Fj hp hF => ?_⟩
  rcases Nat.lt_or_ge j xs.length with hj | hj
  · rw [List.getElem?_append_left hj] at hp
    rw [List.getElem?_append_left (by rw [h.2.1]; exact hj)] at hF
    have hle : j * d.sz + d.sz ≤ cs.length := by rw [h.1, ← Nat.succ_mul]; exact Nat.mul_le_mul_right _ hj
    have e1 : ((cs ++ cs').drop (j * d.sz)).take d.sz = (cs.drop (j * d.sz)).take d.sz := by
      rw [List.drop_append_of_le_length (by omega), List.take_append_of_le_length (by rw [List.length_drop]; omega)]
    rw [e1]
    exact h.2.2 j p Fj hp hF
  · rw [List.getElem?_append_right hj] at hp
    rw [List.getElem?_append_right (by rw [h.2.1]; exact hj), h.2.1] at hF
    have e1 : (cs ++ cs').drop (j * d.sz) = cs'.drop ((j - xs.length) * d.sz) := by
      rw [List.drop_append, List.drop_eq_nil_of_le (by rw [h.1]; exact Nat.mul_le_mul_right _ hj), List.nil_append, h.1, Nat.sub_mul]
    rw [e1]
    exact h'.2.2 (j - xs.length) p Fj hp hF
/-- append(s, x...) at a plain region's list: x's cells stand in a block that is known whole. -/
theorem wp_app {P : Program} {ops : Array Oper} {rest : List Oper} {o : Oper} {a : Act} {Q : Exit → Act → World → Prop} {W : World} (d : Knd α) (hgd : o.guard = none) (s x : Operand) (t : TypeId)
    (ho : o.op = .call { callee := .builtin .append, args := #[s, x], argTypes := #[t, t] }) (e : TypeId) (ht : P.underlying t = some (.slice e)) (z : Value) (bytes : Nat) (hinfo : (P.info? e).map (fun i => (i.zero, i.size, i.bytes)) = some (some z, d.sz, bytes)) (hz : z.cells.size = d.sz) (hsz : 0 < d.sz)
    (hs : a.eval s = v) (hown : OwnF d e W v xs Fs) (B : Nat) (t' : TypeId) (fr : Nat × Nat) (c : Nat) (hB : W.heap[B]? = some (.cells cs'.toArray t' fr)) (hx : a.eval x = .slice (some ⟨B, 0, none⟩) zs.length c) (hels : Els d W zs cs' Gs)
    (hd : ∀ q ∈ v.ownBlock.toList, q ∉ Fs.flatten ∧ q ∉ Gs.flatten)
    (hm : 0 < zs.length) (h63 : xs.length + zs.length ≤ maxLen) (hbytes : (xs.length + zs.length) * bytes ≤ 140737488355328)
    (h : ∀ g cap w', OwnF d e w' (.slice (some ⟨g, 0, none⟩) (xs.length + zs.length) cap) (xs ++ zs) (Fs ++ Gs) → But v.ownBlock.toList W w' → (v.ownBlock = some g ∨ g = W.heap.size) → wpList P ops Q rest (a.put o.dst (.slice (some ⟨g, 0, none⟩) (xs.length + zs.length) cap)) w') : wpList P ops Q (o :: rest) a W := by
  obtain ⟨i0, hi, hzz⟩ := Option.map_eq_some_iff.1 hinfo
  simp only [Prod.mk.injEq] at hzz
  obtain ⟨hz0, hz1, hz2⟩ := hzz
  obtain ⟨inner, ho1, hr⟩ := hown
  have hnews := World.news_of_block hB
  have h1 : ∀ u ∈ cs', u.oneCell' = true := by
    intro u hu
    obtain ⟨j, hj⟩ := List.mem_iff_getElem?.1 hu
    have hjl : j < cs'.length := (List.getElem?_eq_some_iff.1 hj).1
    rw [hels.1] at hjl
    have hq : j / d.sz < zs.length := (Nat.div_lt_iff_lt_mul hsz).2 hjl
    have hK := Els.K (A := 0) hels (j / d.sz) _ (List.getElem?_eq_getElem hq)
    refine d.K_one hK u (List.mem_iff_getElem?.2 ⟨j % d.sz, ?_⟩)
    rw [List.getElem?_take_of_lt (Nat.mod_lt _ hsz), List.getElem?_drop, Nat.mul_comm, Nat.div_add_mod]
    exact hj
  refine wpList_append_lies W hgd s x t ho 0 e i0 z d.sz bytes ht hi hz0 hz1 hz2 hz hsz v xs.length inner hs ho1 ⟨B, 0, none⟩ zs.length c cs' hx hels.1 (by simpa using hnews) h1 hm h63 hbytes (Nat.zero_le _) _ rfl ?_
  intro g cap w' hown' hgr hg hlt
  have hfar : ∀ q ∈ (Fs ++ Gs).flatten, w'.heap[q]? = W.heap[q]? := by
    intro q hq
    have hq2 : q ∈ Fs.flatten ∨ q ∈ Gs.flatten := by simpa using hq
    have hlt : q < W.heap.size := by
      rcases hq2 with hq | hq
      · obtain ⟨Fj, hFj, hgj⟩ := List.mem_flatten.1 hq
        obtain ⟨j, hj⟩ := List.mem_iff_getElem?.1 hFj
        have hl : j < xs.length := by rw [← hr.2.1]; exact (List.getElem?_eq_some_iff.1 hj).1
        exact d.O_lt (hr.2.2 j _ Fj (List.getElem?_eq_getElem hl) hj) q hgj
      · obtain ⟨Fj, hFj, hgj⟩ := List.mem_flatten.1 hq
        obtain ⟨j, hj⟩ := List.mem_iff_getElem?.1 hFj
        have hl : j < zs.length := by rw [← hels.2.1]; exact (List.getElem?_eq_some_iff.1 hj).1
        exact d.O_lt (hels.2.2 j _ Fj (List.getElem?_eq_getElem hl) hj) q hgj
    refine hgr.block q hlt (fun he => ?_)
    have := hd q (by rw [← he]; simp)
    rcases hq2 with hq | hq
    · exact this.1 hq
    · exact this.2 hq
  refine h g cap w' ⟨inner ++ cs', ?_, (hr.append hels).frame hfar⟩ (But.grown hgr) hg
  rw [List.length_append]
  exact hown'
end
theorem flat_nil {α : Type} {enc : α → Value} {h1 : ∀ x, (enc x).oneCell' = true} {e : Nat} {w : World} {v : Value} {xs : List α} {Fs : List (List Nat)} (h : OwnF (scalar enc h1) e w v xs Fs) : Fs.flatten = [] := by
  obtain ⟨inner, ho, hr⟩ := h
  apply List.eq_nil_iff_forall_not_mem.2
  intro q hq
  obtain ⟨Fj, hFj, hg⟩ := List.mem_flatten.1 hq
  obtain ⟨j, hj⟩ := List.mem_iff_getElem?.1 hFj
  have hl : j < xs.length := by rw [← hr.2.1]; exact (List.getElem?_eq_some_iff.1 hj).1
  have := (hr.2.2 j _ Fj (List.getElem?_eq_getElem hl) hj).2
  rw [this] at hg
  simp at hg
theorem flat_own {α : Type} {enc : α → Value} {h1 : ∀ x, (enc x).oneCell' = true} {e : Nat} {w : World} {v : Value} {xs : List α} {F : List Nat} (h : Own (scalar enc h1) e w v xs F) : F = v.ownBlock.toList := by
  obtain ⟨Fs, ho, rfl⟩ := h.fs
  rw [flat_nil ho, List.append_nil]
/-- One element more, of a kind of one cell. -/
theorem wp_app1 {α : Type} {enc : α → Value} {h1 : ∀ x, (enc x).oneCell' = true} {P : Program} {ops : Array Oper} {rest : List Oper} {o : Oper} {a : Act} {Q : Exit → Act → World → Prop} {W : World} (hgd : o.guard = none) (s x : Operand) (t : TypeId)
    (ho : o.op = .call { callee := .builtin .append, args := #[s, x], argTypes := #[t, t] }) (e : TypeId) (ht : P.underlying t = some (.slice e)) (z : Value) (bytes : Nat) (hinfo : (P.info? e).map (fun i => (i.zero, i.size, i.bytes)) = some (some z, 1, bytes)) (hz : z.cells.size = 1)
    {v : Value} {xs : List α} {F : List Nat} (hs : a.eval s = v) (hown : Own (scalar enc h1) e W v xs F) (B : Nat) (t' : TypeId) (fr : Nat × Nat) (c : Nat) (y : α) (hB : W.heap[B]? = some (.cells #[enc y] t' fr)) (hx : a.eval x = .slice (some ⟨B, 0, none⟩) 1 c)
    (h63 : xs.length + 1 ≤ maxLen) (hbytes : (xs.length + 1) * bytes ≤ 140737488355328)
    (h : ∀ g cap w', Own (scalar enc h1) e w' (.slice (some ⟨g, 0, none⟩) (xs.length + 1) cap) (xs ++ [y]) [g] → But F W w' → (g ∈ F ∨ g = W.heap.size) → wpList P ops Q rest (a.put o.dst (.slice (some ⟨g, 0, none⟩) (xs.length + 1) cap)) w') : wpList P ops Q (o :: rest) a W := by
  obtain ⟨Fs, hF, rfl⟩ := hown.fs
  have hn := flat_nil hF
  refine wp_app (scalar enc h1) (zs := [y]) (Gs := [[]]) hgd s x t ho e ht z bytes hinfo hz (show 0 < 1 from Nat.one_pos) hs hF B t' fr c (cs' := [enc y]) hB hx ?_ (fun q _ => by rw [hn]; simp) (by simp) (by simpa using h63) (by simpa using hbytes) ?_
  · refine ⟨rfl, rfl, fun j p Fj hp hFj => ?_⟩
    have hj : j = 0 := by
      have := (List.getElem?_eq_some_iff.1 hp).1
      simp at this
      exact this
    subst hj
    simp at hp hFj
    subst hp
    subst hFj
    exact ⟨rfl, rfl⟩
  · intro g cap w' h2 h3 h4
    have h5 := h2.own
    have e5 : (Fs ++ [([] : List Nat)]).flatten = [] := by
      rw [List.flatten_append, hn]
      rfl
    rw [e5] at h5
    refine h g cap w' (by simpa [Value.ownBlock] using h5) (h3.mono (fun q hq => List.mem_append_left _ hq)) ?_
    rcases h4 with h4 | h4
    · exact .inl (List.mem_append_left _ (by rw [h4]; simp))
    · exact .inr h4
end Knd
end Go.Proofs.YthinhlcfpaaldaaGreat.Mem

/- A number laid into bytes. -/
namespace Go.Proofs.YthinhlcfpaaldaaGreat.Dat
open Go Go.RowKit Go.Proofs.YthinhlcfpaaldaaGreat.Mem
set_option linter.unusedVariables false
set_option linter.unusedSimpArgs false
end Go.Proofs.YthinhlcfpaaldaaGreat.Dat

/- A module as bytes: the program's save. -/
namespace Go.Proofs.YthinhlcfpaaldaaGreat.Mem
open Go Go.RowKit
end Go.Proofs.YthinhlcfpaaldaaGreat.Mem

/- A module as bytes, plainly. -/
namespace Go.Proofs.YthinhlcfpaaldaaGreat.Dat
open Go Go.RowKit Go.Proofs.YthinhlcfpaaldaaGreat.Mem
set_option linter.unusedVariables false
set_option linter.unusedSimpArgs false
end Go.Proofs.YthinhlcfpaaldaaGreat.Dat

/- What a walk keeps: old memory as it was, and resources of its own that lie apart from each other. -/
namespace Go.Proofs.YthinhlcfpaaldaaGreat.Mem
open Go Go.RowKit
set_option linter.unusedVariables false
set_option linter.unusedSimpArgs false
/-- A resource: a fact about some blocks alone. -/
structure Res where
  F : List Nat
  P : World → Prop
  lt : ∀ {W : World}, P W → ∀ g ∈ F, g < W.heap.size
  loc : ∀ {W W' : World}, (∀ g ∈ F, W'.heap[g]? = W.heap[g]?) → P W → P W'
namespace Res
def box (g : Nat) (o : Obj) : Res := ⟨[g], fun W => W.heap[g]? = some o, fun h q hq => by rw [List.mem_singleton.1 hq]; exact blk_lt h, fun h k => (h g (by simp)).trans k⟩
def own {α : Type} (d : Knd α) (e : Nat) (v : Value) (xs : List α) (F : List Nat) : Res := ⟨F, fun W => d.Own e W v xs F, fun h => h.lt, fun h k => k.frame h⟩
def agg {α : Type} (d : Knd α) (x : α) (cs : List Value) (F : List Nat) : Res := ⟨F, fun W => d.O W x cs F, fun h => d.O_lt h, fun h k => d.O_frame h k⟩
end Res
structure St (w : World) (L : List Res) (W : World) : Prop where
  bel : Below w.heap.size w W
  at_ : ∀ r ∈ L, r.P W
  old : ∀ r ∈ L, ∀ g ∈ r.F, w.heap.size ≤ g
  dis : (L.map Res.F).flatten.Nodup
theorem erase_perm {α : Type} : ∀ (L : List α) (i : Nat) (x : α), L[i]? = some x → (x :: L.eraseIdx i).Perm L
  | [], i, x, h => by simp at h
  | y :: L, 0, x, h => by
    have e : y = x := by simpa using h
    subst e
    exact List.Perm.refl _
  | y :: L, i + 1, x, h => (List.Perm.swap y x _).trans ((erase_perm L i x (by simpa using h)).cons y)
theorem set_perm {α : Type} : ∀ (L : List α) (i : Nat) (x : α), i < L.length → (x :: L.eraseIdx i).Perm (L.set i x)
  | [], i, x, h => by simp at h
  | y :: L, 0, x, h => List.Perm.refl _
  | y :: L, i + 1, x, h => (List.Perm.swap y x _).trans ((set_perm L i x (by simpa using h)).cons y)
namespace St
variable {w W W' : World} {L : List Res} {r r' : Res}
theorem start (w : World) : St w [] w := ⟨Below.refl _ _, by simp, by simp, by simp⟩
theorem get (h : St w L W) (i : Nat) (hi : L[i]? = some r) : r.P W := h.at_ r (List.mem_of_getElem? hi)
theorem lts (h : St w L W) (i : Nat) (hi : L[i]? = some r) : ∀ g ∈ r.F, g < W.heap.size := r.lt (h.get i hi)
theorem olds (h : St w L W) (i : Nat) (hi : L[i]? = some r) : ∀ g ∈ r.F, w.heap.size ≤ g := h.old r (List.mem_of_getElem? hi)
theorem nodup (h : St w L W) (i : Nat) (hi : L[i]? = some r) : r.F.Nodup := by
  have h1 := List.pairwise_flatten.1 h.dis
  exact h1.1 _ (List.mem_map.2 ⟨r, List.mem_of_getElem? hi, rfl⟩)
theorem step (h : St w L W) (hb : Below W.heap.size W W') : St w L W' := ⟨bl_step h.bel hb, fun r hr => r.loc (fun g hg => hb.block g (r.lt (h.at_ r hr) g hg)) (h.at_ r hr), h.old, h.dis⟩
theorem new (h : St w L W) (hb : Below W.heap.size W W') (hr : r.P W') (hnd : r.F.Nodup) (hn : ∀ g ∈ r.F, W.heap.size ≤ g) : St w (r :: L) W' := ⟨bl_step h.bel hb, fun q hq => by
    rcases List.mem_cons.1 hq with rfl | hq
    · exact hr
    · exact (h.step hb).at_ q hq, fun q hq g hg => by
    rcases List.mem_cons.1 hq with rfl | hq
    · exact Nat.le_trans h.bel.size (hn g hg)
    · exact h.old q hq g hg, by
    rw [List.map_cons, List.flatten_cons, List.nodup_append]
    refine ⟨hnd, h.dis, fun a ha b hb2 e => ?_⟩
    subst e
    obtain ⟨F, hF, haF⟩ := List.mem_flatten.1 hb2
    obtain ⟨q, hq, rfl⟩ := List.mem_map.1 hF
    have := q.lt (h.at_ q hq) a haF
    have := hn a ha
    omega⟩
theorem made (h : St w L W) (o : Obj) : St w (Res.box W.heap.size o :: L) (W.alloc o) := h.new ((Below.refl _ _).alloc (Nat.le_refl _) o) (blk_new W o) (by simp [Res.box]) (by simp [Res.box])
theorem madeAt (h : St w L W) (o : Obj) (g : Nat) (hg : W.heap.size = g) : St w (Res.box g o :: L) (W.alloc o) := hg ▸ h.made o
theorem drew (h : St w L W) : St w L W.drew := h.step ((Below.refl _ _).drew)
theorem perm {L' : List Res} (h : St w L W) (hp : L.Perm L') : St w L' W := ⟨h.bel, fun r hr => h.at_ r (hp.mem_iff.2 hr), fun r hr => h.old r (hp.mem_iff.2 hr), (hp.map Res.F).flatten.nodup_iff.1 h.dis⟩
theorem drop (h : St w (r :: L) W) : St w L W := ⟨h.bel, fun r hr => h.at_ r (List.mem_cons_of_mem _ hr), fun r hr => h.old r (List.mem_cons_of_mem _ hr), by
  have h1 := h.dis
  rw [List.map_cons, List.flatten_cons, List.nodup_append] at h1
  exact h1.2.1⟩
theorem front (h : St w L W) (i : Nat) (hi : L[i]? = some r) : St w (r :: L.eraseIdx i) W := h.perm (erase_perm L i r hi).symm
/-- The first one turned, in its own blocks and in new ones. -/
theorem upd0 (h : St w (r :: L) W) (hB : But r.F W W') (hr : r'.P W') (hnd : r'.F.Nodup) (hF : ∀ g ∈ r'.F, g ∈ r.F ∨ W.heap.size ≤ g) : St w (r' :: L) W' := by
  have h1 := h.dis
  rw [List.map_cons, List.flatten_cons, List.nodup_append] at h1
  have hfar : ∀ q ∈ L, ∀ g ∈ q.F, g ∉ r.F := fun q hq g hg hm => h1.2.2 g hm g (List.mem_flatten.2 ⟨_, List.mem_map.2 ⟨q, hq, rfl⟩, hg⟩) rfl
  have hlt : ∀ q ∈ L, ∀ g ∈ q.F, g < W.heap.size := fun q hq => q.lt (h.at_ q (List.mem_cons_of_mem _ hq))
  refine ⟨hB.below h.bel (h.old r (by simp)), fun q hq => ?_, fun q hq g hg => ?_, ?_⟩
  · rcases List.mem_cons.1 hq with rfl | hq
    · exact hr
    · exact q.loc (fun g hg => hB.block g (hlt q hq g hg) (hfar q hq g hg)) (h.at_ q (List.mem_cons_of_mem _ hq))
  · rcases List.mem_cons.1 hq with rfl | hq
    · rcases hF g hg with h2 | h2
      · exact h.old r (by simp) g h2
      · exact Nat.le_trans h.bel.size h2
    · exact h.old q (List.mem_cons_of_mem _ hq) g hg
  · rw [List.map_cons, List.flatten_cons, List.nodup_append]
    refine ⟨hnd, h1.2.1, fun a ha b hb2 e => ?_⟩
    subst e
    obtain ⟨F, hFm, haF⟩ := List.mem_flatten.1 hb2
    obtain ⟨q, hq, rfl⟩ := List.mem_map.1 hFm
    rcases hF a ha with h2 | h2
    · exact hfar q hq a haF h2
    · have := hlt q hq a haF
      omega
theorem upd (h : St w L W) (i : Nat) (hi : L[i]? = some r) (hB : But r.F W W') (hr : r'.P W') (hnd : r'.F.Nodup) (hF : ∀ g ∈ r'.F, g ∈ r.F ∨ W.heap.size ≤ g) : St w (L.set i r') W' :=
  ((h.front i hi).upd0 hB hr hnd hF).perm (set_perm L i r' (List.getElem?_eq_some_iff.1 hi).1)
/-- A fact of the same blocks put for another one. -/
theorem asF (h : St w L W) (i : Nat) (hi : L[i]? = some r) (hr : r'.P W) (hF : r'.F = r.F) : St w (L.set i r') W :=
  h.upd i hi (But.refl _ _) hr (hF ▸ h.nodup i hi) (fun g hg => .inl (hF ▸ hg))
theorem set (h : St w L W) (i : Nat) {g : Nat} {cs : Array Value} {t : TypeId} (hi : L[i]? = some (Res.box g (.cells cs t (0, 0)))) (j : Nat) (v : Value) : St w (L.set i (Res.box g (.cells (cs.setIfInBounds j v) t (0, 0)))) (W.setCell ⟨g, j, none⟩ v) :=
  h.upd i hi ((But.refl _ _).set (by simp [Res.box]) j v) (blk_set (h.get i hi) j v) (by simp [Res.box]) (fun q hq => .inl hq)
theorem cell (h : St w L W) (i : Nat) {g : Nat} {cs : Array Value} {t : TypeId} (hi : L[i]? = some (Res.box g (.cells cs t (0, 0)))) : ∀ j, W.cell? ⟨g, j, none⟩ = cs[j]? := blk_cell (h.get i hi)
theorem free (h : St w L W) (i : Nat) {g : Nat} {cs : Array Value} {t : TypeId} (hi : L[i]? = some (Res.box g (.cells cs t (0, 0)))) : ∀ j, W.frozen? ⟨g, j, none⟩ = false := blk_frozen (h.get i hi)
theorem blt (h : St w L W) (i : Nat) {g : Nat} {o : Obj} (hi : L[i]? = some (Res.box g o)) : g < W.heap.size := blk_lt (h.get i hi)
theorem row {α : Type} {d : Knd α} {e : Nat} {v : Value} {xs : List α} {F : List Nat} (h : St w L W) (i : Nat) (hi : L[i]? = some (Res.own d e v xs F)) : ∃ A c, v = .slice A xs.length c ∧ xs.length ≤ c ∧ d.Row W A xs.length xs := Knd.Own.row (h.get i hi)
end St
end Go.Proofs.YthinhlcfpaaldaaGreat.Mem

/- What Verify computes, plainly: the heights of a function, and the first trouble. -/
namespace Go.Proofs.YthinhlcfpaaldaaGreat.Dat
open Go Go.RowKit Go.Proofs.YthinhlcfpaaldaaGreat.Mem
set_option linter.unusedVariables false
set_option linter.unusedSimpArgs false
/-- What may follow an instruction. -/
def nexts (x : DIns) (pc : Nat) : List Int :=
  if x.op = 25 then [] else if x.op = 17 then [x.a] else if x.op = 18 ∨ x.op = 19 then [(pc : Int) + 1, x.a] else [(pc : Int) + 1]
def isJmp (op : Int) : Bool := btw op 17 19
def leftOf (l : List DFunc) (x : DIns) (h : Int) : Int := h - (uses l x.op x.a).1 + (uses l x.op x.a).2
def canB (l : List DFunc) (x : DIns) (h : Int) : Bool := decide ((uses l x.op x.a).1 ≤ h) && decide (leftOf l x h ≤ 16)
def at0 (d : List Int) (i : Int) : Int := d.getD i.toNat 0
/-- A height laid at a place where there is none. -/
def put1 (n : Nat) (left : Int) (s : List Int × Bool) (next : Int) : List Int × Bool := if next < n ∧ at0 s.1 next < 0 then (s.1.set next.toNat left, true) else s
def stepD (l : List DFunc) (n : Nat) (x : DIns) (pc : Nat) (s : List Int × Bool) : List Int × Bool :=
  if at0 s.1 pc < 0 then s else if canB l x (at0 s.1 pc) then (nexts x pc).foldl (put1 n (leftOf l x (at0 s.1 pc))) s else s
def sweepD (l : List DFunc) (n : Nat) : List DIns → Nat → List Int × Bool → List Int × Bool
  | [], _, s => s
  | x :: xs, pc, s => sweepD l n xs (pc + 1) (stepD l n x pc s)
def fixD (l : List DFunc) (c : List DIns) : Nat → List Int → List Int
  | 0, d => d
  | k + 1, d => if (sweepD l c.length c 0 (d, false)).2 then fixD l c k (sweepD l c.length c 0 (d, false)).1 else (sweepD l c.length c 0 (d, false)).1
def initD (n : Nat) : List Int := (List.replicate n (-1 : Int)).set 0 0
def depthsL (l : List DFunc) (c : List DIns) : List Int := fixD l c (c.length + 1) (initD c.length)
/-- What is wrong at an instruction, or 0. -/
def insT (l : List DFunc) (d : List Int) (x : DIns) (pc : Nat) : Int :=
  if at0 d pc < 0 then 0 else if !canB l x (at0 d pc) then 2 else if (nexts x pc).any (fun to => decide (to = (d.length : Int))) then 3 else if (nexts x pc).any (fun to => decide (at0 d to ≠ leftOf l x (at0 d pc))) then 4 else 0
/-- The first trouble from an instruction on. -/
def codeT (l : List DFunc) (d : List Int) : List DIns → Nat → Option (Int × Nat)
  | [], _ => none
  | x :: xs, pc => if insT l d x pc ≠ 0 then some (insT l d x pc, pc) else codeT l d xs (pc + 1)
def funcsT (l : List DFunc) : List DFunc → Nat → Int × Int × Int
  | [], _ => (0, 0, 0)
  | x :: xs, f => match codeT l (depthsL l x.code) x.code 0 with
    | some r => (r.1, f, r.2)
    | none => funcsT l xs (f + 1)
def verL (t : List ByteArray) (l : List DFunc) : Int × Int × Int := if modB t l then funcsT l l 0 else (1, 0, 0)
/-! ### Facts of a module that is ok -/
/-- An instruction's targets and a function's numbers. -/
structure InsFit (n : Nat) (x : DIns) : Prop where
  jmp : btw x.op 17 19 = true → 0 ≤ x.a ∧ x.a ≤ (n : Int) - 1
theorem nexts_fit {n : Nat} {x : DIns} {pc : Nat} (h : InsFit n x) (hpc : pc < n) : ∀ to ∈ nexts x pc, 0 ≤ to ∧ to ≤ (n : Int) := by
  intro to ht
  unfold nexts at ht
  have hj := h.jmp
  rw [btw_true] at hj
  split at ht
  · simp at ht
  · split at ht
    · rename_i h2
      rw [List.mem_singleton] at ht
      subst ht
      have := hj (by omega)
      omega
    · split at ht
      · rename_i h3
        simp only [List.mem_cons, List.not_mem_nil, or_false] at ht
        rcases ht with rfl | rfl
        · omega
        · have := hj (by omega)
          omega
      · rw [List.mem_singleton] at ht
        omega
/-- Takes and lays are few, and none is less than 0. -/
theorem uses_fit (l : List DFunc) (op a : Int) (hl : ∀ y ∈ l, 0 ≤ y.params ∧ y.params ≤ 6) : 0 ≤ (uses l op a).1 ∧ (uses l op a).1 ≤ 7 ∧ 0 ≤ (uses l op a).2 ∧ (uses l op a).2 ≤ 2 := by
  unfold uses
  split
  · simp
  split
  · simp
  split
  · simp
  split
  · simp
  split
  · simp
  split
  · simp
  split
  · simp
  split
  · rename_i h
    simp only
    omega
  split
  · rename_i h
    have hk : a.toNat < l.length := by omega
    simp only [List.getD_eq_getElem?_getD, List.getElem?_eq_getElem hk, Option.getD_some]
    have := hl _ (List.getElem_mem hk)
    omega
  · simp
/-- Heights from -1 to 16, as many as there are instructions. -/
def Hgt (n : Nat) (d : List Int) : Prop := d.length = n ∧ ∀ h ∈ d, -1 ≤ h ∧ h ≤ 16
theorem Hgt.at_ {n : Nat} {d : List Int} (h : Hgt n d) (i : Int) : -1 ≤ at0 d i ∧ at0 d i ≤ 16 := by
  unfold at0
  rw [List.getD_eq_getElem?_getD]
  rcases Nat.lt_or_ge i.toNat d.length with hi | hi
  · rw [List.getElem?_eq_getElem hi]
    exact h.2 _ (List.getElem_mem hi)
  · rw [List.getElem?_eq_none hi]
    simp
theorem Hgt.init (n : Nat) : Hgt n (initD n) := by
  refine ⟨by simp [initD], fun h hm => ?_⟩
  have := List.mem_or_eq_of_mem_set hm
  rcases this with h1 | h1
  · have := (List.mem_replicate.1 h1).2
    omega
  · omega
theorem Hgt.set {n : Nat} {d : List Int} (h : Hgt n d) (i : Nat) {v : Int} (hv : -1 ≤ v ∧ v ≤ 16) : Hgt n (d.set i v) := by
  refine ⟨by rw [List.length_set]; exact h.1, fun u hm => ?_⟩
  rcases List.mem_or_eq_of_mem_set hm with h1 | h1
  · exact h.2 u h1
  · rw [h1]
    exact hv
/-- How many have no height yet. -/
def negs (d : List Int) : Nat := d.countP (fun h => decide (h < 0))
theorem negs_set {d : List Int} {i : Nat} {v : Int} (hi : i < d.length) (h0 : d[i] < 0) (hv : 0 ≤ v) : negs (d.set i v) + 1 = negs d := by
  unfold negs
  have h1 := List.countP_set (p := fun h : Int => decide (h < 0)) (l := d) (i := i) (a := v) hi
  rw [h1]
  have hpos : 0 < d.countP (fun h => decide (h < 0)) := List.countP_pos_iff.2 ⟨d[i], List.getElem_mem hi, by simpa using h0⟩
  have e1 : decide (d[i] < 0) = true := decide_eq_true h0
  have e2 : decide (v < 0) = false := decide_eq_false (by omega)
  rw [e1, e2]
  simp only [if_true, Bool.false_eq_true, if_false]
  omega
/-- Nothing new, or fewer without a height. -/
def Fewer (s s' : List Int × Bool) : Prop := negs s'.1 ≤ negs s.1 ∧ (s'.2 = s.2 ∨ (s'.2 = true ∧ negs s'.1 < negs s.1))
theorem Fewer.refl (s : List Int × Bool) : Fewer s s := ⟨Nat.le_refl _, .inl rfl⟩
theorem Fewer.trans {a b c : List Int × Bool} (h : Fewer a b) (k : Fewer b c) : Fewer a c := by
  refine ⟨Nat.le_trans k.1 h.1, ?_⟩
  rcases k.2 with e | ⟨e, l⟩
  · rcases h.2 with e2 | ⟨e2, l2⟩
    · exact .inl (e.trans e2)
    · exact .inr ⟨e.trans e2, Nat.lt_of_le_of_lt k.1 l2⟩
  · exact .inr ⟨e, Nat.lt_of_lt_of_le l h.1⟩
theorem put1_fit {n : Nat} {left : Int} {s : List Int × Bool} {next : Int} (h : Hgt n s.1) (hl : 0 ≤ left ∧ left ≤ 16) (hn : 0 ≤ next) : Hgt n (put1 n left s next).1 ∧ Fewer s (put1 n left s next) := by
  unfold put1
  split
  · rename_i hc
    have hi : next.toNat < s.1.length := by rw [h.1]; omega
    have h0 : s.1[next.toNat] < 0 := by
      have := hc.2
      unfold at0 at this
      rwa [List.getD_eq_getElem?_getD, List.getElem?_eq_getElem hi] at this
    have := negs_set (v := left) hi h0 hl.1
    exact ⟨h.set _ (by omega), by show negs (s.1.set next.toNat left) ≤ _; omega, .inr ⟨rfl, by show negs (s.1.set next.toNat left) < _; omega⟩⟩
  · exact ⟨h, Fewer.refl _⟩
theorem puts_fit {n : Nat} {left : Int} (hl : 0 ≤ left ∧ left ≤ 16) : ∀ (ns : List Int) (s : List Int × Bool), Hgt n s.1 → (∀ to ∈ ns, 0 ≤ to) → Hgt n (ns.foldl (put1 n left) s).1 ∧ Fewer s (ns.foldl (put1 n left) s)
  | [], s, h, _ => ⟨h, Fewer.refl _⟩
  | x :: ns, s, h, hn => by
    have h1 := put1_fit h hl (hn x (by simp))
    have h2 := puts_fit hl ns _ h1.1 (fun to ht => hn to (by simp [ht]))
    exact ⟨h2.1, h1.2.trans h2.2⟩
theorem canB_left {l : List DFunc} {x : DIns} {h : Int} (hl : ∀ y ∈ l, 0 ≤ y.params ∧ y.params ≤ 6) (hc : canB l x h = true) : 0 ≤ leftOf l x h ∧ leftOf l x h ≤ 16 := by
  have hu := uses_fit l x.op x.a hl
  simp only [canB, Bool.and_eq_true, decide_eq_true_eq] at hc
  unfold leftOf at *
  omega
theorem stepD_fit {l : List DFunc} {n : Nat} {x : DIns} {pc : Nat} {s : List Int × Bool} (hl : ∀ y ∈ l, 0 ≤ y.params ∧ y.params ≤ 6) (hx : InsFit n x) (hpc : pc < n) (h : Hgt n s.1) : Hgt n (stepD l n x pc s).1 ∧ Fewer s (stepD l n x pc s) := by
  unfold stepD
  split
  · exact ⟨h, Fewer.refl _⟩
  split
  · rename_i hc
    exact puts_fit (canB_left hl hc) _ s h (fun to ht => (nexts_fit hx hpc to ht).1)
  · exact ⟨h, Fewer.refl _⟩
theorem sweepD_fit {l : List DFunc} {n : Nat} (hl : ∀ y ∈ l, 0 ≤ y.params ∧ y.params ≤ 6) : ∀ (c : List DIns) (pc : Nat) (s : List Int × Bool), (∀ x ∈ c, InsFit n x) → pc + c.length ≤ n → Hgt n s.1 → Hgt n (sweepD l n c pc s).1 ∧ Fewer s (sweepD l n c pc s)
  | [], pc, s, _, _, h => ⟨h, Fewer.refl _⟩
  | x :: c, pc, s, hc, hp, h => by
    simp only [List.length_cons] at hp
    have h1 := stepD_fit hl (hc x (by simp)) (show pc < n by omega) h
    have h2 := sweepD_fit hl c (pc + 1) _ (fun y hy => hc y (by simp [hy])) (by omega) h1.1
    exact ⟨h2.1, h1.2.trans h2.2⟩
theorem fixD_fit {l : List DFunc} (hl : ∀ y ∈ l, 0 ≤ y.params ∧ y.params ≤ 6) (c : List DIns) (hc : ∀ x ∈ c, InsFit c.length x) : ∀ (k : Nat) (d : List Int), Hgt c.length d → Hgt c.length (fixD l c k d)
  | 0, d, h => h
  | k + 1, d, h => by
    have h1 := sweepD_fit hl c 0 (d, false) hc (by omega) h
    unfold fixD
    split
    · exact fixD_fit hl c hc k _ h1.1
    · exact h1.1
theorem depthsL_fit {l : List DFunc} (hl : ∀ y ∈ l, 0 ≤ y.params ∧ y.params ≤ 6) (c : List DIns) (hc : ∀ x ∈ c, InsFit c.length x) : Hgt c.length (depthsL l c) := fixD_fit hl c hc _ _ (Hgt.init _)
theorem negs_le (d : List Int) : negs d ≤ d.length := List.countP_le_length
/-- The rest of a sweep, from an instruction on. -/
theorem sweepD_at {l : List DFunc} {n : Nat} {c : List DIns} {k : Nat} {x : DIns} (hx : c[k]? = some x) (s : List Int × Bool) : sweepD l n (c.drop k) k s = sweepD l n (c.drop (k + 1)) (k + 1) (stepD l n x k s) := by
  obtain ⟨hk, e⟩ := List.getElem?_eq_some_iff.1 hx
  rw [List.drop_eq_getElem_cons hk, e]
  rfl
theorem codeT_at {l : List DFunc} {d : List Int} {c : List DIns} {k : Nat} {x : DIns} (hx : c[k]? = some x) : codeT l d (c.drop k) k = if insT l d x k ≠ 0 then some (insT l d x k, k) else codeT l d (c.drop (k + 1)) (k + 1) := by
  obtain ⟨hk, e⟩ := List.getElem?_eq_some_iff.1 hx
  rw [List.drop_eq_getElem_cons hk, e]
  rfl
theorem funcsT_at {l m : List DFunc} {k : Nat} {x : DFunc} (hx : m[k]? = some x) : funcsT l (m.drop k) k = match codeT l (depthsL l x.code) x.code 0 with | some r => (r.1, (k : Int), (r.2 : Int)) | none => funcsT l (m.drop (k + 1)) (k + 1) := by
  obtain ⟨hk, e⟩ := List.getElem?_eq_some_iff.1 hx
  rw [List.drop_eq_getElem_cons hk, e]
  rfl
/-- What a module that is ok has. -/
structure ModFit (t : List ByteArray) (l : List DFunc) : Prop where
  n1 : 1 ≤ l.length
  n12 : l.length ≤ 12
  t20 : t.length ≤ 20
  par : ∀ y ∈ l, 0 ≤ y.params ∧ y.params ≤ 6
  loc : ∀ y ∈ l, y.params ≤ y.locals ∧ y.locals ≤ 12
  c1 : ∀ y ∈ l, 1 ≤ y.code.length
  c120 : ∀ y ∈ l, y.code.length ≤ 120
  ins : ∀ y ∈ l, ∀ x ∈ y.code, insB t.length l.length y.locals y.code.length x.op x.a = true
theorem modFit {t : List ByteArray} {l : List DFunc} (h : modB t l = true) : ModFit t l := by
  simp only [modB, Bool.and_eq_true, decide_eq_true_eq, btw_true, List.all_eq_true, funcB] at h
  obtain ⟨⟨⟨h1, h2⟩, h3⟩, h4⟩ := h
  exact ⟨by omega, by omega, by omega, fun y hy => by have := h4 y hy; omega, fun y hy => by have := h4 y hy; omega, fun y hy => by have := h4 y hy; omega, fun y hy => by have := h4 y hy; omega, fun y hy x hx => (h4 y hy).2 x hx⟩
theorem ModFit.fit {t : List ByteArray} {l : List DFunc} (h : ModFit t l) {y : DFunc} (hy : y ∈ l) {x : DIns} (hx : x ∈ y.code) : InsFit y.code.length x := ⟨fun hj => by
  have h1 := h.ins y hy x hx
  rw [btw_true] at hj
  unfold insB at h1
  rw [if_neg (by omega), if_neg (by omega), if_neg (by omega), if_neg (by omega), if_neg (by omega), if_pos (by omega), btw_true] at h1
  exact h1⟩
theorem ModFit.hgt {t : List ByteArray} {l : List DFunc} (h : ModFit t l) {y : DFunc} (hy : y ∈ l) : Hgt y.code.length (depthsL l y.code) := depthsL_fit h.par _ (fun x hx => h.fit hy hx)
end Go.Proofs.YthinhlcfpaaldaaGreat.Dat

/- slices.Repeat of one number, and what may follow an instruction. -/
namespace Go.Proofs.YthinhlcfpaaldaaGreat.Mem
open Go Go.RowKit
set_option linter.unusedVariables false
set_option linter.unusedSimpArgs false
/-- A block with an element after the other, and no more. -/
theorem Knd.own_blk {α : Type} {enc : α → Value} {h1 : ∀ x, (enc x).oneCell' = true} {e : Nat} {W : World} {g : Nat} (xs : List α) (hg : W.heap[g]? = some (.cells (xs.map enc).toArray e (0, 0))) (hm : xs.length ≤ maxLen) :
    Knd.Own (Knd.scalar enc h1) e W (.slice (some ⟨g, 0, none⟩) xs.length xs.length) xs [g] := by
  refine ⟨xs.map enc, List.replicate xs.length [], ⟨?_, .inr ⟨g, xs.length, (xs.map enc).toArray, rfl, Nat.zero_le _, hg, Nat.le_refl _, hm, ?_, ?_⟩⟩, ⟨?_, ?_, fun j p Fj hp hF => ?_⟩, ?_⟩
  · show _ = _ * 1
    simp
  · show _ = _ * 1
    simp
  · show List.take (_ * 1) _ = _
    rw [List.toList_toArray, List.take_of_length_le (by simp)]
  · show _ = _ * 1
    simp
  · simp
  · have hj : j < xs.length := (List.getElem?_eq_some_iff.1 hp).1
    have e1 : Fj = [] := by
      obtain ⟨_, h⟩ := List.getElem?_eq_some_iff.1 hF
      simpa using h.symm
    subst e1
    refine ⟨?_, rfl⟩
    show ((xs.map enc).drop (j * 1)).take 1 = [enc p]
    have e2 : xs[j] = p := (List.getElem?_eq_some_iff.1 hp).2
    rw [Nat.mul_one, List.drop_eq_getElem_cons (by simpa using hj)]
    simp [e2]
  · simp [Value.ownBlock]
theorem Knd.own_lit {α : Type} {enc : α → Value} {h1 : ∀ x, (enc x).oneCell' = true} (e : Nat) (W : World) (xs : List α) (hm : xs.length ≤ maxLen) :
    Knd.Own (Knd.scalar enc h1) e (W.alloc (.cells (xs.map enc).toArray e (0, 0))) (.slice (some ⟨W.heap.size, 0, none⟩) xs.length xs.length) xs [W.heap.size] := Knd.own_blk xs (blk_new W _) hm
/-- make([]T, n) of one cell an element, the block told. -/
theorem Knd.wp_makeB {P : Program} {ops : Array Oper} {rest : List Oper} {o : Oper} {a : Act} {Q : Exit → Act → World → Prop} {W : World} (hgd : o.guard = none) (t x y : _) (ho : o.op = .makeSlice t x y) (n : Nat) (hx : a.eval x = .int .i64 n) (hy : a.eval y = .int .i64 n)
    (e : Nat) (ht : P.underlying t = some (.slice e)) (z : Value) (bytes : Nat) (hinfo : (P.info? e).map (fun i => (i.zero, i.size, i.bytes)) = some (some z, 1, bytes)) (hz : z.cells = #[z]) (hb0 : 0 < bytes) (hl : n * bytes ≤ 281474976710656)
    (h : wpList P ops Q rest (a.put o.dst (.slice (some ⟨W.heap.size, 0, none⟩) n n)) (W.alloc (.cells (List.replicate n z).toArray e (0, 0)))) : wpList P ops Q (o :: rest) a W := by
  obtain ⟨i0, hi, hzz⟩ := Option.map_eq_some_iff.1 hinfo
  simp only [Prod.mk.injEq] at hzz
  obtain ⟨hz0, hz1, hz2⟩ := hzz
  have hm : n ≤ 281474976710656 := Nat.le_trans (Nat.le_mul_of_pos_right _ hb0) hl
  have hr := run_make (P := P) W t e i0 z ht hi hz0 .i64 .i64 (n : Int) (n : Int) (by omega) (by omega)
    (by
      have h3 : ((i0.bytes * n : Nat) : Int) ≤ 281474976710656 := by rw [hz2, Nat.mul_comm]; omega
      rwa [Int.natCast_mul] at h3) (by omega)
  simp only [Int.toNat_natCast] at hr
  have hc : madeCells z.cells (n * i0.size) = (List.replicate n z).toArray := by
    rw [hz1, hz, Nat.mul_one]
    apply Array.ext
    · simp [size_madeCells]
    · intro i h1 h2
      simp [madeCells, Nat.mod_one]
  rw [hc] at hr
  have hrun : (execOp a.eval o).run P W = .ok (.value (.slice (some ⟨W.heap.size, 0, none⟩) n n)) (W.alloc (.cells (List.replicate n z).toArray e)) := by simp [execOp, ho, hx, hy, hr]
  refine wpList_plain hgd fun K hK => ?_
  unfold Oper.wp
  rw [hrun]
  exact hK _ _ h
/-- A scalar's cell in a row. -/
theorem Knd.Row.one {α : Type} {enc : α → Value} {h1 : ∀ x, (enc x).oneCell' = true} {w : World} {A : Option Addr} {n : Nat} {xs : List α} (h : (Knd.scalar enc h1).Row w A n xs) (k : Nat) (x : α) (hx : xs[k]? = some x) : ∃ ad, A = some ad ∧ w.cell? (ad.add k) = some (enc x) := by
  obtain ⟨ad, cs, rfl, hK, q⟩ := h.get k x hx
  obtain rfl : cs = [enc x] := hK
  refine ⟨ad, rfl, ?_⟩
  have := q 0 _ rfl
  simpa [Knd.scalar] using this
end Go.Proofs.YthinhlcfpaaldaaGreat.Mem
namespace Go.Proofs.YthinhlcfpaaldaaGreat.Dat
open Go Go.RowKit Go.Proofs.YthinhlcfpaaldaaGreat.Mem
set_option linter.unusedVariables false
set_option linter.unusedSimpArgs false
theorem infoInt : (Tryz.prog.info? 3).map (fun i => (i.zero, i.size, i.bytes)) = some (some (.int .i64 0), 1, 8) := by kernel_rfl
theorem newNil {α : Type} (d : Knd α) (e : Nat) (w w' : World) (hb : Below w.heap.size w w') : NewRow d e [] w (.returned (.slice none 0 0)) w' := ⟨_, [], rfl, Knd.Own.nil _ _ _, List.nodup_nil, by simp, hb⟩
theorem newLit {α : Type} {enc : α → Value} {h1 : ∀ x, (enc x).oneCell' = true} (e : Nat) (w W : World) (xs : List α) (cs : Array Value) (hcs : cs = (xs.map enc).toArray) (g : Nat) (hg : W.heap.size = g) (n : Nat) (hn : n = xs.length) (hm : xs.length ≤ 1000) (hb : Below w.heap.size w W) : NewRow (Knd.scalar enc h1) e xs w (.returned (.slice (some ⟨g, 0, none⟩) n n)) (W.alloc (.cells cs e (0, 0))) := by
  subst hn hcs hg
  refine ⟨_, [W.heap.size], rfl, Knd.own_lit e W xs (by unfold maxLen; omega), by simp, by simp [hb.size], bl_alloc hb _⟩
theorem nexts_25 (x : DIns) (pc : Nat) (h : x.op = 25) : nexts x pc = [] := by simp [nexts, h]
theorem nexts_17 (x : DIns) (pc : Nat) (h : x.op = 17) : nexts x pc = [x.a] := by simp [nexts, h]
theorem nexts_18 (x : DIns) (pc : Nat) (h : x.op = 18 ∨ x.op = 19) : nexts x pc = [(pc : Int) + 1, x.a] := by rcases h with h | h <;> simp [nexts, h]
theorem nexts_o (x : DIns) (pc : Nat) (h : x.op ≠ 25 ∧ x.op ≠ 17 ∧ x.op ≠ 18 ∧ x.op ≠ 19) : nexts x pc = [(pc : Int) + 1] := by simp [nexts, h]
set_option maxHeartbeats 1000000 in
theorem followsI (x : DIns) (pc : Nat) (w : World) (hp : pc ≤ 1048576) : Calls Tryz.prog 238 #[.agg #[.int .i64 x.op, .int .i64 x.a], .int .i64 pc] w (NewRow (Knd.int .i64) 3 (nexts x pc) w) := by
  obtain ⟨op, a⟩ := x
  by_cases h1 : op = 25
  · subst h1
    rw [nexts_25 _ _ rfl]
    go_enter Tryz.func238, Tryz.ntmps238
    go_wp2
    go_ret
    refine newNil _ _ _ _ ?_
    exact bl9
  by_cases h2 : op = 17
  · subst h2
    rw [nexts_17 _ _ rfl]
    go_enter Tryz.func238, Tryz.ntmps238
    go_wp2
    go_ret
    refine newLit (enc := Value.int .i64) (h1 := fun _ => rfl) 3 w _ [a] _ rfl (w.heap.size + 1) (by simp) _ rfl (by simp) ?_
    exact bl9
  by_cases h3 : op = 18
  · subst h3
    rw [nexts_18 _ _ (.inl rfl)]
    go_enter Tryz.func238, Tryz.ntmps238
    go_wp2
    go_ret
    refine newLit (enc := Value.int .i64) (h1 := fun _ => rfl) 3 w _ [(pc : Int) + 1, a] _ rfl (w.heap.size + 1) (by simp) _ rfl (by simp) ?_
    exact bl9
  by_cases h4 : op = 19
  · subst h4
    rw [nexts_18 _ _ (.inr rfl)]
    go_enter Tryz.func238, Tryz.ntmps238
    go_wp2
    go_ret
    refine newLit (enc := Value.int .i64) (h1 := fun _ => rfl) 3 w _ [(pc : Int) + 1, a] _ rfl (w.heap.size + 1) (by simp) _ rfl (by simp) ?_
    exact bl9
  rw [nexts_o _ _ ⟨h1, h2, h3, h4⟩]
  go_enter Tryz.func238, Tryz.ntmps238
  go_wp2
  go_ret
  refine newLit (enc := Value.int .i64) (h1 := fun _ => rfl) 3 w _ [(pc : Int) + 1] _ rfl (w.heap.size + 1) (by simp) _ rfl (by simp) ?_
  exact bl9
theorem wraps64 (n : Int) (h₀ : 0 ≤ n) (h₁ : n < 2 ^ 64) : IntKind.u64.wrap n = n := by rw [IntKind.wrap_u64]; omega
set_option maxHeartbeats 1000000 in
theorem mul64 (n : Int) (w : World) (h0 : 0 ≤ n) (h1 : n ≤ 1000000) : Calls Tryz.prog 354 #[.int .u64 1, .int .u64 n] w fun e w' => e = .returned (.tuple #[.int .u64 0, .int .u64 n]) ∧ w = w' := by
  obtain ⟨m, rfl⟩ : ∃ m : Nat, n = m := ⟨n.toNat, by omega⟩
  have e1 : bits .and .u64 1 4294967295 = 1 := by decide +kernel
  have e2 : bits .and .u64 (m : Int) 4294967295 = m := (bits_mask .u64 64 (by decide) wraps64 32 (by decide) _ (by omega) (by omega)).trans (by omega)
  have e3 : bits .and .u64 0 4294967295 = 0 := by decide +kernel
  have e4 : (m : Int) / 4294967296 = 0 := by omega
  have e5 : IntKind.u64.wrap (m : Int) = m := wraps64 _ (by omega) (by omega)
  go_enter Tryz.func354, Tryz.ntmps354
  go_wp2
  go_ret2
  exact ⟨rfl, rfl⟩
theorem bmul (n : Int) (w : World) (h0 : 0 ≤ n) (h1 : n ≤ 1000000) : Calls Tryz.prog 329 #[.int .u64 1, .int .u64 n] w fun e w' => e = .returned (.tuple #[.int .u64 0, .int .u64 n]) ∧ w = w' := by
  go_enter Tryz.func329, Tryz.ntmps329
  go_wp2_with fail
  refine (mul64 n _ h0 h1).mono ?_
  rintro e w' ⟨rfl, rfl⟩
  go_wp2
  go_ret2
  exact ⟨rfl, rfl⟩
set_option maxHeartbeats 1000000 in
theorem one_src {W : World} {b : Nat} {u : Value} (hy : W.cell? ⟨b, 0, none⟩ = some u) : ∀ (j : Nat) (v : Value), [u][j]? = some v → W.cell? ⟨b, j, none⟩ = some v := by
  intro j v h
  have hj : j = 0 := by
    have := (List.getElem?_eq_some_iff.1 h).1
    simp at this
    exact this
  subst hj
  have e : u = v := by simpa using h
  subst e
  exact hy
theorem rep_src {W : World} {g q m n : Nat} {y : Int} (h : W.heap[g]? = some (.cells ((List.replicate m (Value.int .i64 y) ++ List.replicate (n - m) (Value.int .i64 0))).toArray 3 (0, 0))) (hq : q ≤ m) : ∀ (j : Nat) (v : Value), (List.replicate q (Value.int .i64 y))[j]? = some v → W.drew.cell? ((⟨g, 0, none⟩ : Addr).add j) = some v := by
  intro j v hv
  obtain ⟨hj, e⟩ := List.getElem?_eq_some_iff.1 hv
  have hj' : j < q := by simpa using hj
  rw [List.getElem_replicate] at e
  subst e
  have e2 : (⟨g, 0, none⟩ : Addr).add j = ⟨g, j, none⟩ := by unfold Addr.add; split <;> simp_all
  rw [e2]
  show W.cell? ⟨g, j, none⟩ = _
  rw [blk_cell h j, List.getElem?_toArray, List.getElem?_append_left (by simp; omega), List.getElem?_replicate, if_pos (by omega)]
theorem rep_splice {m q n : Nat} {y : Int} (h0 : 0 < q) (hm : m + q ≤ n) : (splice (List.replicate m (Value.int .i64 y) ++ List.replicate (n - m) (Value.int .i64 0)) m (List.replicate q (Value.int .i64 y))) = List.replicate (m + q) (Value.int .i64 y) ++ List.replicate (n - (m + q)) (Value.int .i64 0) := by
  unfold splice
  rw [List.take_left' (by simp), List.length_replicate, List.drop_append, List.drop_replicate, List.drop_replicate, List.length_replicate]
  rw [show m - (m + q) = 0 by omega, show n - m - (m + q - m) = n - (m + q) by omega, List.replicate_zero, List.nil_append, ← List.append_assoc, List.replicate_append_replicate]
set_option maxHeartbeats 800000 in
set_option maxRecDepth 100000 in
theorem repeat1 (b : Nat) (y : Int) (n : Nat) (w : World) (hy : w.cell? ⟨b, 0, none⟩ = some (.int .i64 y)) (h0 : 0 < n) (h1 : n ≤ 1000000) : Calls Tryz.prog 256 #[.slice (some ⟨b, 0, none⟩) 1 1, .int .i64 n] w (NewRow (Knd.int .i64) 3 (List.replicate n y) w) := by
  obtain ⟨N, hN⟩ : ∃ N : Int, N = n := ⟨_, rfl⟩
  rw [← hN]
  have HN := Lib.hid hN
  have n0 : 0 < N := by omega
  have n1 : N ≤ 1000000 := by omega
  clear hN
  go_enter Tryz.func256, Tryz.ntmps256
  go_wp2_with fail
  refine (bmul N _ (by omega) (by omega)).mono ?_
  rintro e w' ⟨rfl, rfl⟩
  go_wp2_with (first | (refine Knd.wp_makeB rfl _ _ _ rfl n (congrArg (Value.int .i64) HN.out) (congrArg (Value.int .i64) HN.out) 3 Tryz.underlying81 (.int .i64 0) 8 infoInt rfl (by decide) (by omega) ?_) | (refine wpList_copy_splice rfl (.tmp 31) (.tmp 32) 81 81 rfl 3 Tryz.underlying81 (by kernel_rfl) _ _ _ _ _ _ rfl rfl w.heap.size 0 (List.replicate n (.int .i64 0)) 3 ?_ [.int .i64 y] ?_ ?_ ?_ ?_ w.heap.size w ?_ ?_ ?_))
  · exact (blk_new w (.cells (Array.replicate n (.int .i64 0)) 3 (0, 0))).trans (by simp)
  · show 1 = Nat.min 1 n
    exact (Nat.min_eq_left h0).symm
  · exact one_src (cell_below (bl_alloc (Below.refl _ _) _) (World.block_lt_of_cell? w _ hy) hy)
  · simp; omega
  · simp [Value.oneCell']
  · exact bl9
  · exact Nat.le_refl _
  intro w2 hW hb
  go_wp2
  have hW2 : w2.heap[w.heap.size]? = some (.cells ((List.replicate 1 (Value.int .i64 y) ++ List.replicate (n - 1) (Value.int .i64 0))).toArray 3 (0, 0)) := by
    rw [hW.out]
    simp [splice]
  clear hW
  go_loopw [8] (fun i wr => ∃ m : Nat, 1 ≤ m ∧ m ≤ n ∧ i = .int .i64 m ∧ Hid (wr.heap[w.heap.size]? = some (.cells ((List.replicate m (Value.int .i64 y) ++ List.replicate (n - m) (Value.int .i64 0))).toArray 3 (0, 0))) ∧ Below w.heap.size w wr) (fun i _ => n - (intOf i).toNat)
  case atStart => exact ⟨1, by omega, by omega, rfl, hW2, hb⟩
  case round =>
    clear hW2 hb
    obtain ⟨m, hm1, hm2, rfl, hW, hb⟩ := hrel
    by_cases hlt : m < n
    · obtain ⟨q, hq⟩ : ∃ q, q = Nat.min m (n - m) := ⟨_, rfl⟩
      have q0 : 0 < q := by rw [hq]; exact Nat.lt_min.2 ⟨hm1, by omega⟩
      have q1 : q ≤ n - m := by rw [hq]; exact Nat.min_le_right _ _
      have q2 : q ≤ m := by rw [hq]; exact Nat.min_le_left _ _
      have H1 := Lib.hid (show (List.replicate q (Value.int .i64 y)).length = Nat.min m (n - m) by simp [hq])
      have H2 := Lib.hid (rep_src (W := wr) (g := w.heap.size) (q := q) (m := m) (n := n) (y := y) hW.out q2)
      have H3 := Lib.hid (show m + (List.replicate q (Value.int .i64 y)).length ≤ (List.replicate m (Value.int .i64 y) ++ List.replicate (n - m) (Value.int .i64 0)).length by simp; omega)
      have H4 := Lib.hid (show ∀ v ∈ List.replicate q (Value.int .i64 y), v.oneCell' = true by intro v hv; rw [(List.mem_replicate.1 hv).2]; rfl)
      have H5 := Lib.hid (rep_splice (y := y) q0 (show m + q ≤ n by omega))
      have H6 : IntKind.i64.wrap ((m : Int) + (q : Int)) = ((m + q : Nat) : Int) := by rw [IntKind.wrap_i64]; omega
      have hlt2 : (m : Int) < n := by omega
      have hne1 : ¬ n = m := by omega
      have hne2 : ¬ m = n := by omega
      have hne3 : ¬ n - m = 0 := by omega
      clear hq
      go_wp2
      go_region_law ((refine step_copy_splice (o := ⟨some 45, _, _, _, _, _⟩) rfl (.tmp 41) (.tmp 44) 81 81 rfl 3 Tryz.underlying81 (by kernel_rfl) (some ⟨w.heap.size, m, none⟩) (some ⟨w.heap.size, 0, none⟩) (n - m) (n - m) m n (by go_simp) (by go_simp) w.heap.size m (List.replicate m (Value.int .i64 y) ++ List.replicate (n - m) (Value.int .i64 0)) 3 (by exact hW.out) (List.replicate q (Value.int .i64 y)) H1.out (fun _ => ⟨rfl, _, rfl, H2.out⟩) H3.out H4.out w.heap.size w (by exact bl_drew hb) (Nat.le_refl _) ?_; intro w3 hW3 hb3))
      clear hne1 hne2 hne3
      go_wp2
      clear H6
      refine ⟨?_, ?_⟩
      · (repeat apply Exists.intro)
        refine ⟨?_, rfl⟩
        refine ⟨m + q, by omega, by omega, by go_num, Lib.hid ?_, hb3⟩
        rw [← H5.out]
        exact hW3.out
      · show n - (intOf (.int .i64 ((m : Int) + q))).toNat < n - (intOf (.int .i64 (m : Int))).toNat
        simp [intOf]
        omega
    · obtain rfl : m = n := by omega
      go_wp2
      go_ret
      refine ⟨_, [w.heap.size], rfl, ?_, by simp, by simp, hb⟩
      have h5 := Knd.own_blk (enc := Value.int .i64) (h1 := fun _ => rfl) (e := 3) (W := wr) (g := w.heap.size) (List.replicate m y) (by rw [hW.out]; simp) (by simp [maxLen]; omega)
      simp only [List.length_replicate] at h5
      exact h5
end Go.Proofs.YthinhlcfpaaldaaGreat.Dat

/- Rows of one cell an element among the resources: read, written, appended to. -/
namespace Go.Proofs.YthinhlcfpaaldaaGreat.Mem
open Go Go.RowKit
set_option linter.unusedVariables false
set_option linter.unusedSimpArgs false
namespace Knd
section
variable {α : Type} {enc : α → Value} {h1 : ∀ x, (enc x).oneCell' = true} {e : Nat} {w : World} {g n c : Nat} {xs : List α} {F : List Nat}
theorem Own.cell1 (h : Own (scalar enc h1) e w (.slice (some ⟨g, 0, none⟩) n c) xs F) (k : Nat) (x : α) (hx : xs[k]? = some x) : w.cell? ⟨g, k, none⟩ = some (enc x) := by
  obtain ⟨A, c', hv, _, hr⟩ := h.row
  obtain ⟨ad, hA, hc⟩ := hr.one k x hx
  cases hv
  cases hA
  rw [← hc]
  congr 1
  unfold Addr.add
  split <;> simp_all
theorem Own.free1 (h : Own (scalar enc h1) e w (.slice (some ⟨g, 0, none⟩) n c) xs F) (k : Nat) : w.frozen? ⟨g, k, none⟩ = false := by
  obtain ⟨Fs, hF, _⟩ := h.fs
  exact hF.free k
theorem Own.put1 (h : Own (scalar enc h1) e w (.slice (some ⟨g, 0, none⟩) n c) xs F) (k : Nat) (hk : k < xs.length) (x : α) : Own (scalar enc h1) e (w.setCell ⟨g, k, none⟩ (enc x)) (.slice (some ⟨g, 0, none⟩) n c) (xs.set k x) F := by
  have hF := flat_own h
  obtain ⟨Fs, hO, _⟩ := h.fs
  have hp := (hO.put k hk [enc x] x [] ⟨rfl, rfl⟩ (by simp) (by rw [flat_nil hO]; simp)).own
  rw [flat_own hp, ← hF] at hp
  have e1 : k * (scalar enc h1).sz = k := Nat.mul_one k
  rw [e1] at hp
  exact hp
end
end Knd
theorem own_form {α : Type} {d : Knd α} {e : Nat} {w : World} {v : Value} {xs : List α} {F : List Nat} (h : d.Own e w v xs F) (hn : 0 < xs.length) : ∃ g c, v = .slice (some ⟨g, 0, none⟩) xs.length c ∧ g ∈ F := by
  obtain ⟨inner, Fs, ho, hr, rfl⟩ := h
  rcases ho.2 with ⟨_, h0⟩ | ⟨g, cap, cur, hv, _⟩
  · omega
  · exact ⟨g, cap, hv, by simp [hv, Value.ownBlock]⟩
theorem own_len {α : Type} {d : Knd α} {e : Nat} {w : World} {A : Option Addr} {n c : Nat} {xs : List α} {F : List Nat} (h : d.Own e w (.slice A n c) xs F) : n = xs.length := by
  obtain ⟨A', c', hv, _⟩ := h.row
  cases hv
  rfl
theorem blkAt (W : World) (o : Obj) {g : Nat} (hg : W.heap.size = g) : (W.alloc o).heap[g]? = some o := hg ▸ blk_new W o
namespace St
variable {w W W' : World} {L : List Res} {α : Type} {enc : α → Value} {h1 : ∀ x, (enc x).oneCell' = true} {e : Nat} {g n c : Nat} {xs : List α} {F : List Nat}
theorem cell1 (h : St w L W) (i : Nat) (hi : L[i]? = some (Res.own (Knd.scalar enc h1) e (.slice (some ⟨g, 0, none⟩) n c) xs F)) (k : Nat) (x : α) (hx : xs[k]? = some x) : W.cell? ⟨g, k, none⟩ = some (enc x) := Knd.Own.cell1 (h.get i hi) k x hx
theorem cellR {A : Option Addr} (h : St w L W) (i : Nat) (hi : L[i]? = some (Res.own (Knd.scalar enc h1) e (.slice A n c) xs F)) (k : Nat) (x : α) (hx : xs[k]? = some x) : ∃ ad, A = some ad ∧ W.cell? (ad.add k) = some (enc x) := by
  obtain ⟨A', c', hv, _, hr⟩ := h.row i hi
  cases hv
  exact hr.one k x hx
theorem free1 (h : St w L W) (i : Nat) (hi : L[i]? = some (Res.own (Knd.scalar enc h1) e (.slice (some ⟨g, 0, none⟩) n c) xs F)) (k : Nat) : W.frozen? ⟨g, k, none⟩ = false := Knd.Own.free1 (h.get i hi) k
theorem put1 (h : St w L W) (i : Nat) (hi : L[i]? = some (Res.own (Knd.scalar enc h1) e (.slice (some ⟨g, 0, none⟩) n c) xs F)) (k : Nat) (hk : k < xs.length) (x : α) : St w (L.set i (Res.own (Knd.scalar enc h1) e (.slice (some ⟨g, 0, none⟩) n c) (xs.set k x) F)) (W.setCell ⟨g, k, none⟩ (enc x)) := by
  have ho : (Knd.scalar enc h1).Own e W (.slice (some ⟨g, 0, none⟩) n c) xs F := h.get i hi
  have hg : g ∈ F := by
    rw [Knd.flat_own ho]
    simp [Value.ownBlock]
  have hnd : F.Nodup := by
    have := h.nodup i hi
    exact this
  exact h.upd i hi ((But.refl _ _).set hg _ _) (ho.put1 k hk x) hnd (fun q hq => .inl hq)
theorem app1 {v : Value} {w' : World} {g cap m : Nat} {y : α} (h : St w L W) (i : Nat) (hi : L[i]? = some (Res.own (Knd.scalar enc h1) e v xs F)) (hO : (Knd.scalar enc h1).Own e w' (.slice (some ⟨g, 0, none⟩) m cap) (xs ++ [y]) [g]) (hB : But F W w') (hg : g ∈ F ∨ g = W.heap.size) : St w (L.set i (Res.own (Knd.scalar enc h1) e (.slice (some ⟨g, 0, none⟩) m cap) (xs ++ [y]) [g])) w' :=
  h.upd i hi hB hO (by simp [Res.own]) (fun q hq => by
    rw [List.mem_singleton.1 hq]
    rcases hg with hg | hg
    · exact .inl hg
    · exact .inr (by omega))
theorem own_ {d : Knd α} {v : Value} (h : St w L W) (i : Nat) (hi : L[i]? = some (Res.own d e v xs F)) : d.Own e W v xs F := h.get i hi
theorem litAt (h : St w L W) (xs : List α) (cs : Array Value) (hcs : cs = (xs.map enc).toArray) (g : Nat) (hg : W.heap.size = g) (n : Nat) (hn : n = xs.length) (hm : xs.length ≤ 1000) : St w (Res.own (Knd.scalar enc h1) e (.slice (some ⟨g, 0, none⟩) n n) xs [g] :: L) (W.alloc (.cells cs e (0, 0))) := by
  subst hcs hg hn
  exact h.new ((Below.refl _ _).alloc (Nat.le_refl _) _) (Knd.own_lit e W xs (by unfold maxLen; omega)) (by simp [Res.own]) (by simp [Res.own])
theorem al (h : St w L W) (o : Obj) : St w L (W.alloc o) := h.step ((Below.refl _ _).alloc (Nat.le_refl _) o)
end St
/-- A row just made. -/
theorem St.madeRow {w W W' : World} {L : List Res} {α : Type} {enc : α → Value} {h1 : ∀ x, (enc x).oneCell' = true} {e : Nat} {g n c : Nat} {xs : List α} {Fs : List (List Nat)} (h : St w L W) (ho : Knd.OwnF (Knd.scalar enc h1) e W' (.slice (some ⟨g, 0, none⟩) n c) xs Fs) (hg : g = W.heap.size) (hb : Below W.heap.size W W') : St w (Res.own (Knd.scalar enc h1) e (.slice (some ⟨g, 0, none⟩) n c) xs [g] :: L) W' := by
  have h2 := ho.own
  rw [Knd.flat_own h2] at h2
  have e1 : (Value.slice (some (⟨g, 0, none⟩ : Addr)) n c).ownBlock.toList = [g] := rfl
  rw [e1] at h2
  exact h.new hb h2 (by simp [Res.own]) (by simp [Res.own, hg])
/-- What a call hands back as a new row, laid among the resources. -/
theorem St.newRow {w W W' : World} {L : List Res} {α : Type} {d : Knd α} {e : Nat} {xs : List α} {en : Ending} (h : St w L W) (hn : NewRow d e xs W en W') : ∃ v F, en = .returned v ∧ St w (Res.own d e v xs F :: L) W' := by
  obtain ⟨v, F, rfl, ho, hnd, hF, hb⟩ := hn
  exact ⟨v, F, rfl, h.new hb ho hnd hF⟩
/-- The end: a row handed back. -/
theorem St.outRow {w W : World} {L : List Res} {α : Type} {d : Knd α} {e : Nat} {v : Value} {xs : List α} {F : List Nat} (h : St w L W) (i : Nat) (hi : L[i]? = some (Res.own d e v xs F)) : NewRow d e xs w (.returned v) W :=
  ⟨v, F, rfl, h.get i hi, h.nodup i hi, h.olds i hi, h.bel⟩
end Go.Proofs.YthinhlcfpaaldaaGreat.Mem

/- The laws' marks in bytes. -/
namespace Go.Proofs.YthinhlcfpaaldaaGreat.Mem
open Go Go.RowKit
namespace Knd
theorem OwnF.form {α : Type} {d : Knd α} {e : Nat} {w : World} {v : Value} {xs : List α} {Fs : List (List Nat)} (h : OwnF d e w v xs Fs) (hn : 0 < xs.length) : ∃ g c, v = .slice (some ⟨g, 0, none⟩) xs.length c := by
  obtain ⟨inner, ho, hr⟩ := h
  rcases ho.2 with ⟨_, h0⟩ | ⟨g, cap, cur, hv, _⟩
  · omega
  · exact ⟨g, cap, hv⟩
end Knd
end Go.Proofs.YthinhlcfpaaldaaGreat.Mem
namespace Go.Proofs.YthinhlcfpaaldaaGreat.Dat
open Go Go.RowKit Go.Proofs.YthinhlcfpaaldaaGreat.Mem
set_option linter.unusedVariables false
set_option linter.unusedSimpArgs false
theorem set_upto {α : Type} (M l : List α) (j : Nat) (x : α) (hl : M.length = l.length) (hx : M[j]? = some x) : (M.take j ++ l.drop j).set j x = M.take (j + 1) ++ l.drop (j + 1) := by
  have hj : j < M.length := (List.getElem?_eq_some_iff.1 hx).1
  have e : M[j] = x := (List.getElem?_eq_some_iff.1 hx).2
  rw [List.set_append_right _ _ (by rw [List.length_take]; omega), List.length_take, Nat.min_eq_left (by omega), Nat.sub_self, List.drop_eq_getElem_cons (by omega), List.set_cons_zero, List.take_succ_eq_append_getElem hj, e]
  simp
set_option maxHeartbeats 1000000 in
theorem next03 (x : DIns) (pc : Nat) (w : World) (hp : pc ≤ 1048576) : Calls Tryz.prog 233 #[.agg #[.int .i64 x.op, .int .i64 x.a], .int .i64 pc] w (NewRow (Knd.int .i64) 3 (nexts x pc) w) := by
  obtain ⟨op, a⟩ := x
  have hS0 := ((St.start w).made (.cells #[.int .i64 op, .int .i64 a] 305 (0, 0))).litAt (enc := Value.int .i64) (h1 := fun _ => rfl) (e := 3) [] #[] rfl (w.heap.size + 1) (by simp) 0 rfl (by simp)
  by_cases h1 : op = 25
  · subst h1
    rw [nexts_25 _ _ rfl]
    go_enter Tryz.func233, Tryz.ntmps233
    go_wp2
    go_ret
    exact hS0.outRow 0 rfl
  by_cases h2 : op = 17
  · subst h2
    rw [nexts_17 _ _ rfl]
    go_enter Tryz.func233, Tryz.ntmps233
    have hS := hS0
    go_wp2_with (at_builtin; refine Knd.wp_app1 rfl _ _ _ rfl 3 Tryz.underlying81 (.int .i64 0) 8 infoInt rfl rfl ((hS.al _).own_ 0 rfl) _ _ _ _ _ (blkAt _ _ (by simp)) rfl (by (try simp [maxLen]); (try omega)) (by (try simp); (try omega)) ?_; rintro gq cq wq hO hB hg; have hSq := (hS.al _).app1 0 rfl hO hB hg; clear hO hB hg hS; have hS := hSq; clear hSq; have x0 := hS.cell 1 rfl)
    go_ret
    exact hS.outRow 0 rfl
  by_cases h3 : op = 18
  · subst h3
    rw [nexts_18 _ _ (.inl rfl)]
    go_enter Tryz.func233, Tryz.ntmps233
    have hS := hS0
    go_wp2_with (at_builtin; refine Knd.wp_app1 rfl _ _ _ rfl 3 Tryz.underlying81 (.int .i64 0) 8 infoInt rfl rfl ((hS.al _).own_ 0 rfl) _ _ _ _ _ (blkAt _ _ (by simp)) rfl (by (try simp [maxLen]); (try omega)) (by (try simp); (try omega)) ?_; rintro gq cq wq hO hB hg; have hSq := (hS.al _).app1 0 rfl hO hB hg; clear hO hB hg hS; have hS := hSq; clear hSq; have x0 := hS.cell 1 rfl)
    go_ret
    exact hS.outRow 0 rfl
  by_cases h4 : op = 19
  · subst h4
    rw [nexts_18 _ _ (.inr rfl)]
    go_enter Tryz.func233, Tryz.ntmps233
    have hS := hS0
    go_wp2_with (at_builtin; refine Knd.wp_app1 rfl _ _ _ rfl 3 Tryz.underlying81 (.int .i64 0) 8 infoInt rfl rfl ((hS.al _).own_ 0 rfl) _ _ _ _ _ (blkAt _ _ (by simp)) rfl (by (try simp [maxLen]); (try omega)) (by (try simp); (try omega)) ?_; rintro gq cq wq hO hB hg; have hSq := (hS.al _).app1 0 rfl hO hB hg; clear hO hB hg hS; have hS := hSq; clear hSq; have x0 := hS.cell 1 rfl)
    go_ret
    exact hS.outRow 0 rfl
  rw [nexts_o _ _ ⟨h1, h2, h3, h4⟩]
  have e17 : (op == 17) = false := by simpa using h2
  have f17 : (op != 17) = true := by simpa using h2
  have f25 : (op != 25) = true := by simpa using h1
  have e18 : (op == 18) = false := by simpa using h3
  have e19 : (op == 19) = false := by simpa using h4
  go_enter Tryz.func233, Tryz.ntmps233
  have hS := hS0
  go_wp2_with (at_builtin; refine Knd.wp_app1 rfl _ _ _ rfl 3 Tryz.underlying81 (.int .i64 0) 8 infoInt rfl rfl ((hS.al _).own_ 0 rfl) _ _ _ _ _ (blkAt _ _ (by simp)) rfl (by (try simp [maxLen]); (try omega)) (by (try simp); (try omega)) ?_; rintro gq cq wq hO hB hg; have hSq := (hS.al _).app1 0 rfl hO hB hg; clear hO hB hg hS; have hS := hSq; clear hSq; have x0 := hS.cell 1 rfl)
  go_ret
  exact hS.outRow 0 rfl
theorem leavesI (A B : Option Addr) (c d : Nat) (t : List ByteArray) (l : List DFunc) (x : DIns) (h : Int) (w : World) (hr : kFunc.Row w B l.length l) (hm : l.length ≤ 1048576) (hp : ∀ y ∈ l, 0 ≤ y.params ∧ y.params ≤ 6) (h1 : -1 ≤ h) (h2 : h ≤ 16) :
    Calls Tryz.prog 237 #[.agg #[.slice A t.length c, .slice B l.length d], .agg #[.int .i64 x.op, .int .i64 x.a], .int .i64 h] w fun e w' => e = .returned (.tuple #[.int .i64 (leftOf l x h), .bool (canB l x h)]) ∧ Below w.heap.size w w' := by
  have hu := uses_fit l x.op x.a hp
  have C := usesI A B c d t l x.op x.a
  unfold canB leftOf
  generalize (uses l x.op x.a).1 = a at hu C ⊢
  generalize (uses l x.op x.a).2 = b at hu C ⊢
  obtain ⟨u1, u2, u3, u4⟩ := hu
  by_cases ha : a ≤ h
  · rw [decide_eq_true ha, Bool.true_and]
    by_cases hb : h - a + b ≤ 16
    · rw [decide_eq_true hb]
      go_enter Tryz.func237, Tryz.ntmps237
      go_wp2_with fail
      refine (C _ (hr.below bl9) hm).mono ?_
      rintro e w' ⟨rfl, hb⟩
      go_wp2
      go_ret2
      exact ⟨rfl, bl9⟩
    · rw [decide_eq_false hb]
      have hb' : decide (h - a + b ≤ 16) = false := decide_eq_false hb
      go_enter Tryz.func237, Tryz.ntmps237
      go_wp2_with fail
      refine (C _ (hr.below bl9) hm).mono ?_
      rintro e w' ⟨rfl, hb⟩
      go_wp2
      go_ret2
      exact ⟨rfl, bl9⟩
  · rw [decide_eq_false ha, Bool.false_and]
    have ha' : h < a := by omega
    go_enter Tryz.func237, Tryz.ntmps237
    go_wp2_with fail
    refine (C _ (hr.below bl9) hm).mono ?_
    rintro e w' ⟨rfl, hb⟩
    go_wp2
    go_ret2
    exact ⟨rfl, bl9⟩
/-- A round of the inner loop. -/
theorem puts_at {n : Nat} {left : Int} {ns : List Int} {j : Nat} {to : Int} (hj : ns[j]? = some to) (s : List Int × Bool) : (ns.drop j).foldl (put1 n left) s = (ns.drop (j + 1)).foldl (put1 n left) (put1 n left s to) := by
  obtain ⟨hk, e⟩ := List.getElem?_eq_some_iff.1 hj
  rw [List.drop_eq_getElem_cons hk, e]
  rfl
theorem at0_nat (d : List Int) (k : Nat) : at0 d k = d.getD k 0 := by simp [at0]
theorem at0_get {d : List Int} {k : Nat} (h : k < d.length) : d[k]? = some (at0 d k) := by
  rw [at0_nat, List.getD_eq_getElem?_getD, List.getElem?_eq_getElem h]
  rfl
theorem put1_yes {n m : Nat} {left : Int} {s : List Int × Bool} (h1 : m < n) (h2 : at0 s.1 m < 0) : put1 n left s m = (s.1.set m left, true) := by
  unfold put1
  rw [if_pos ⟨by omega, h2⟩, Int.toNat_natCast]
theorem put1_no {n m : Nat} {left : Int} {s : List Int × Bool} (h : ¬ (m < n ∧ at0 s.1 m < 0)) : put1 n left s m = s := by
  unfold put1
  rw [if_neg (by omega)]
set_option maxHeartbeats 4000000 in
set_option maxRecDepth 100000 in
theorem depthsI (A B : Option Addr) (c d : Nat) (t : List ByteArray) (l : List DFunc) (f : Nat) (y : DFunc) (w : World) (hr : kFunc.Row w B l.length l) (hfit : ModFit t l) (hy : l[f]? = some y) :
    Calls Tryz.prog 154 #[.agg #[.slice A t.length c, .slice B l.length d], .int .i64 f] w (NewRow (Knd.int .i64) 3 (depthsL l y.code) w) := by
  have hm := hfit.n12
  have hym := List.mem_of_getElem? hy
  have n1 := hfit.c1 y hym
  have n120 := hfit.c120 y hym
  obtain ⟨ad, A2, c2, rfl, _, _, q2', hq, hr2⟩ := kFunc_at hr f y hy
  have q2 := kept (bl_alloc (Below.refl _ _) (.cells #[.slice A t.length c, .slice (some ad) l.length d] 36 (0, 0))) q2'
  have hfl : f < l.length := (List.getElem?_eq_some_iff.1 hy).1
  have HY := Lib.hid hy
  clear hy q2'
  obtain ⟨R, hR⟩ : ∃ R, depthsL l y.code = R := ⟨_, rfl⟩
  rw [hR]
  have HR := Lib.hid hR
  clear hR
  go_enter Tryz.func154, Tryz.ntmps154
  go_wp2_with fail
  refine (repeat1 _ (-1) y.code.length _ ?_ (by omega) (by omega)).mono ?_
  · first | (simp; done) | (go_simp; done) | skip
  intro e w1 hn
  obtain ⟨v, F, rfl, hS⟩ := ((((St.start w).made (.cells #[.slice A t.length c, .slice (some ad) l.length d] 36 (0, 0))).step (Below.refl _ _)).step ((Below.refl _ _).alloc (Nat.le_refl _) _)).newRow hn
  clear hn q2
  obtain ⟨g, cg, hv, hgF⟩ := own_form (hS.get 0 rfl) (by simp; omega)
  rw [List.length_replicate] at hv
  subst hv
  have u0 := hS.cell1 0 rfl 0 (-1) (by rw [List.getElem?_replicate, if_pos (by omega)])
  have f0 := hS.free1 0 rfl 0
  have hS2 := hS.put1 0 rfl 0 (by simp; omega) (0 : Int)
  have HS2 := Lib.hid hS2
  clear hS hS2
  go_wp2
  go_loopg [7] (y.code.length + 1) (fun k more wr => ∃ (s : List Int) (b : Bool), more = .bool b ∧ Hgt y.code.length s ∧ Hid (if b then fixD l y.code k s = R ∧ negs s < k else s = R) ∧ St w [Res.own (Knd.int .i64) 3 (.slice (some ⟨g, 0, none⟩) y.code.length cg) s F, Res.box w.heap.size (.cells #[.slice A t.length c, .slice (some ad) l.length d] 36 (0, 0))] wr)
  case atStart => exact ⟨initD y.code.length, true, rfl, Hgt.init _, Lib.hid (by rw [if_pos rfl]; exact ⟨HR.out, by have := negs_le (initD y.code.length); have := (Hgt.init y.code.length).1; omega⟩), HS2.out⟩
  case round =>
    clear HS2 u0 f0
    obtain ⟨s, b, rfl, hH, hI, hS⟩ := hrel
    cases b
    · have e : s = R := by simpa using hI.out
      subst e
      go_wp2
      go_ret
      exact hS.outRow 0 rfl
    have hI0 := hI.out
    rw [if_pos rfl] at hI0
    obtain ⟨hI1, hI2⟩ := hI0
    obtain ⟨k, rfl⟩ : ∃ k, gk = k + 1 := ⟨gk - 1, by omega⟩
    obtain ⟨Q, hQ⟩ : ∃ Q, sweepD l y.code.length y.code 0 (s, false) = Q := ⟨_, rfl⟩
    have hSw := sweepD_fit (l := l) (n := y.code.length) hfit.par y.code 0 (s, false) (fun x hx => hfit.fit hym hx) (by omega) hH
    have HQ := Lib.hid hQ
    have HI := Lib.hid (show fixD l y.code (k + 1) s = R from hI1)
    have HW := Lib.hid hSw
    have HN := Lib.hid hI2
    clear hI hI1 hI2 hQ hSw
    go_wp2
    go_loopw [7, 29] (fun more i wr => ∃ (pc : Nat) (s' : List Int) (b' : Bool), pc ≤ y.code.length ∧ more = .bool b' ∧ i = .int .i64 pc ∧ Hgt y.code.length s' ∧ Hid (sweepD l y.code.length (y.code.drop pc) pc (s', b') = Q) ∧ St w [Res.own (Knd.int .i64) 3 (.slice (some ⟨g, 0, none⟩) y.code.length cg) s' F, Res.box w.heap.size (.cells #[.slice A t.length c, .slice (some ad) l.length d] 36 (0, 0))] wr) (fun _ i _ => y.code.length - (intOf i).toNat)
    case atStart => exact ⟨0, s, false, by omega, rfl, rfl, hH, HQ, hS⟩
    case round =>
      clear hS hH
      obtain ⟨pc, s', b', hpc, rfl, rfl, hH, hQ, hS⟩ := hrel
      by_cases hlt : pc < y.code.length
      · obtain ⟨x, hx⟩ := get_exU y.code pc hlt
        obtain ⟨ad2, rfl, r0, r1⟩ := kIns_at (hr2.below hS.bel) pc x hx
        have hQ2 := Lib.hid ((sweepD_at hx (s', b')).symm.trans hQ.out)
        have hxf := hfit.fit hym (List.mem_of_getElem? hx)
        have HX := Lib.hid hx
        have hlen : pc < s'.length := by rw [hH.1]; exact hlt
        have u0 := hS.cell1 0 rfl pc _ (at0_get hlen)
        have gl : g < wr.heap.size := hS.lts 0 rfl g hgF
        have hat := hH.at_ pc
        obtain ⟨h, hh⟩ : ∃ h, at0 s' pc = h := ⟨_, rfl⟩
        rw [hh] at u0 hat
        have Hh := Lib.hid hh
        clear hx hQ hlen hh
        by_cases h0 : h < 0
        · have hstep := Lib.hid (show stepD l y.code.length x pc (s', b') = (s', b') by unfold stepD; rw [if_pos (by rw [Hh.out]; exact h0)])
          go_wp2
          go_roundw
          case rel => exact ⟨pc + 1, s', b', by omega, rfl, by go_num, hH, Lib.hid (by rw [← hQ2.out, hstep.out]), hS.step ((Below.refl _ _).alloc (Nat.le_refl _) _)⟩
          case measure => simp [intOf]; omega
        · have h0' : 0 ≤ h := by omega
          generalize hg9 : wr.heap.size = g9 at *
          go_wp2
          have hS0 := hS.madeAt (.cells #[.int .i64 x.op, .int .i64 x.a] 305 (0, 0)) g9 hg9
          have ug : (wr.alloc (.cells #[.int .i64 x.op, .int .i64 x.a] 305 (0, 0))).cell? ⟨g, pc, none⟩ = some (.int .i64 h) := kept (bl_alloc (Below.refl _ _) _) u0
          generalize wr.alloc (.cells #[.int .i64 x.op, .int .i64 x.a] 305 (0, 0)) = W at *
          clear u0 r0 r1
          go_region_held3 (fun w' => w'.cell? ⟨w.heap.size, 0, none⟩ = some (.slice A t.length c) ∧ w'.cell? ⟨w.heap.size, 1, none⟩ = some (.slice (some ad) l.length d) ∧ w'.cell? ⟨g9, 0, none⟩ = some (.int .i64 x.op) ∧ w'.cell? ⟨g9, 1, none⟩ = some (.int .i64 x.a) ∧ w'.cell? ⟨g, pc, none⟩ = some (.int .i64 h)) ((refine ⟨?_, ?_, ?_, ?_, ?_⟩ <;> first | exact hS0.cell 2 rfl 0 | exact hS0.cell 2 rfl 1 | exact hS0.cell 0 rfl 0 | exact hS0.cell 0 rfl 1 | exact ug)) (first | (go_at_call 237; refine (leavesI _ _ _ _ _ l x h _ (hr.below hS0.drew.bel) (by omega) hfit.par (by omega) (by omega)).mono ?_; rintro e w' ⟨rfl, hb2⟩; have ug := kept hb2 ug; have hS0 := hS0.drew.step hb2))
          obtain ⟨left, hl⟩ : ∃ left, leftOf l x h = left := ⟨_, rfl⟩
          obtain ⟨ok, ho⟩ : ∃ ok, canB l x h = ok := ⟨_, rfl⟩
          have HL := Lib.hid (show ok = true → 0 ≤ left ∧ left ≤ 16 from fun e => hl ▸ canB_left hfit.par (ho.trans e))
          have hQ3 := Lib.hid (show stepD l y.code.length x pc (s', b') = if ok then (nexts x pc).foldl (put1 y.code.length left) (s', b') else (s', b') by unfold stepD; rw [if_neg (by rw [Hh.out]; omega), Hh.out, ho, hl])
          rw [hl, ho]
          clear hl ho
          go_wp2_with fail
          refine (followsI x pc _ (by omega)).mono ?_
          intro e w4 hn
          obtain ⟨v2, F2, rfl, hS1⟩ := hS0.newRow hn
          obtain ⟨A3, c3, rfl, _, _⟩ := hS1.row 0 rfl
          clear hn hS0 hS ug
          have hnf := nexts_fit hxf hlt
          have HNF := Lib.hid hnf
          have hnl : (nexts x pc).length ≤ 2 := by unfold nexts; split <;> (try split) <;> (try split) <;> simp
          clear hnf
          obtain ⟨ns, hns⟩ : ∃ ns, nexts x pc = ns := ⟨_, rfl⟩
          rw [hns] at hS1 HNF hQ3 hnl
          rw [hns]
          clear hns
          go_wp2
          go_loopw [7, 53] (fun more i wr => ∃ (j : Nat) (s2 : List Int) (b2 : Bool), j ≤ ns.length ∧ more = .bool b2 ∧ i = .int .i64 j ∧ Hgt y.code.length s2 ∧ Hid ((if ok then (ns.drop j).foldl (put1 y.code.length left) (s2, b2) else (s2, b2)) = stepD l y.code.length x pc (s', b')) ∧ St w [Res.own (Knd.int .i64) 3 (.slice A3 ns.length c3) ns F2, Res.box g9 (.cells #[.int .i64 x.op, .int .i64 x.a] 305 (0, 0)), Res.own (Knd.int .i64) 3 (.slice (some ⟨g, 0, none⟩) y.code.length cg) s2 F, Res.box w.heap.size (.cells #[.slice A t.length c, .slice (some ad) l.length d] 36 (0, 0))] wr) (fun _ i _ => ns.length - (intOf i).toNat)
          case atStart => exact ⟨0, s', b', by omega, rfl, rfl, hH, Lib.hid hQ3.out.symm, hS1⟩
          case round =>
            clear hS1 hH
            obtain ⟨j, s2, b2, hj, rfl, rfl, hH, hP, hS⟩ := hrel
            by_cases hlt2 : j < ns.length
            · obtain ⟨to, hto⟩ := get_exU ns j hlt2
              obtain ⟨hto0, hto1⟩ := HNF.out to (List.mem_of_getElem? hto)
              obtain ⟨ad3, rfl, p0⟩ := hS.cellR 0 rfl j to hto
              obtain ⟨m, rfl⟩ : ∃ m : Nat, to = m := ⟨to.toNat, by omega⟩
              have HT := Lib.hid hto
              clear hto
              cases ok
              · have hP2 : Hid ((s2, b2) = stepD l y.code.length x pc (s', b')) := Lib.hid (by have := hP.out; rwa [if_neg (by simp)] at this)
                go_wp2
                go_roundw
                case rel => exact ⟨j + 1, s2, b2, by omega, rfl, by go_num, hH, Lib.hid (by rw [if_neg (by simp)]; exact hP2.out), hS⟩
                case measure => simp [intOf]; omega
              · obtain ⟨hl0, hl1⟩ := HL.out rfl
                have hP0 := hP.out
                rw [if_pos rfl, puts_at HT.out] at hP0
                by_cases hm1 : m < y.code.length
                · have hml : m < s2.length := by rw [hH.1]; exact hm1
                  have u1 := hS.cell1 2 rfl m _ (at0_get hml)
                  have f1 := hS.free1 2 rfl m
                  have hu := hH.at_ m
                  obtain ⟨u, hu1⟩ : ∃ u, at0 s2 m = u := ⟨_, rfl⟩
                  rw [hu1] at u1 hu
                  by_cases hu0 : u < 0
                  · rw [put1_yes hm1 (by rw [hu1]; exact hu0)] at hP0
                    have hS3 := Lib.hid (hS.put1 2 rfl m hml left)
                    have hP3 := Lib.hid hP0
                    clear hP0 hP hu1 hml hS
                    go_wp2
                    go_roundw
                    case rel => exact ⟨j + 1, s2.set m left, true, by omega, rfl, by go_num, hH.set m (by omega), Lib.hid (by first | exact hP3.out | (rw [if_pos rfl]; exact hP3.out)), hS3.out⟩
                    case measure => simp [intOf]; omega
                  · rw [put1_no (by rw [hu1]; omega)] at hP0
                    have hP3 := Lib.hid hP0
                    have hu0' : 0 ≤ u := by omega
                    clear hP0 hP hu1 hml
                    go_wp2
                    go_roundw
                    case rel => exact ⟨j + 1, s2, b2, by omega, rfl, by go_num, hH, Lib.hid (by first | exact hP3.out | (rw [if_pos rfl]; exact hP3.out)), hS⟩
                    case measure => simp [intOf]; omega
                · rw [put1_no (by omega)] at hP0
                  have hP3 := Lib.hid hP0
                  have hm1' : decide (m < y.code.length) = false := decide_eq_false hm1
                  clear hP0 hP
                  go_wp2
                  go_roundw
                  case rel => exact ⟨j + 1, s2, b2, by omega, rfl, by go_num, hH, Lib.hid (by first | exact hP3.out | (rw [if_pos rfl]; exact hP3.out)), hS⟩
                  case measure => simp [intOf]; omega
            · obtain rfl : j = ns.length := by omega
              have hP2 : Hid ((s2, b2) = stepD l y.code.length x pc (s', b')) := Lib.hid (by have := hP.out; rw [List.drop_length] at this; simpa using this)
              go_wp2
              go_roundw
              case rel => exact ⟨pc + 1, s2, b2, by omega, rfl, by go_num, hH, Lib.hid (by rw [← hQ2.out, hP2.out]), hS.drop.drop⟩
              case measure => simp [intOf]; omega
      · obtain rfl : pc = y.code.length := by omega
        have hQ2 : (s', b') = Q := by have := hQ.out; rwa [List.drop_length] at this
        have hI1 := HI.out
        unfold fixD at hI1
        rw [HQ.out, ← hQ2] at hI1
        have hF := HW.out.2
        rw [HQ.out, ← hQ2] at hF
        have hN := HN.out
        have hI2 : Hid (if b' then fixD l y.code k s' = R ∧ negs s' < k else s' = R) := Lib.hid (by
          cases b'
          · simpa using hI1
          · rcases hF.2 with h3 | h3
            · simp at h3
            · exact ⟨by simpa using hI1, by have := h3.2; simp only at this; omega⟩)
        clear hQ2 hI1 hF hN
        go_wp2
        go_roundg k
        case rel => exact ⟨s', b', rfl, hH, hI2, hS⟩
        case measure => omega
theorem stepD_skip {l : List DFunc} {n : Nat} {x : DIns} {pc : Nat} {s : List Int × Bool} {h : Int} (hh : at0 s.1 pc = h) (hu : 0 ≤ (uses l x.op x.a).1) (k : h < (uses l x.op x.a).1 ∨ 16 < leftOf l x h) : stepD l n x pc s = s := by
  unfold stepD canB
  rw [hh]
  by_cases h0 : h < 0
  · rw [if_pos h0]
  · rw [if_neg h0]
    have e : (decide ((uses l x.op x.a).1 ≤ h) && decide (leftOf l x h ≤ 16)) = false := by
      rcases k with k | k
      · rw [decide_eq_false (by omega), Bool.false_and]
      · rw [decide_eq_false (p := leftOf l x h ≤ 16) (by omega), Bool.and_false]
    rw [e]
    rfl
theorem stepD_go {l : List DFunc} {n : Nat} {x : DIns} {pc : Nat} {s : List Int × Bool} {h : Int} (hh : at0 s.1 pc = h) (hu : 0 ≤ (uses l x.op x.a).1) (k1 : (uses l x.op x.a).1 ≤ h) (k2 : leftOf l x h ≤ 16) : stepD l n x pc s = (nexts x pc).foldl (put1 n (leftOf l x h)) s := by
  unfold stepD canB
  rw [hh, if_neg (by omega), decide_eq_true k1, decide_eq_true k2]
  rfl
set_option maxHeartbeats 4000000 in
set_option maxRecDepth 100000 in
theorem depths03 (A B : Option Addr) (c d : Nat) (t : List ByteArray) (l : List DFunc) (f : Nat) (y : DFunc) (w : World) (hr : kFunc.Row w B l.length l) (hfit : ModFit t l) (hy : l[f]? = some y) :
    Calls Tryz.prog 209 #[.agg #[.slice A t.length c, .slice B l.length d], .int .i64 f] w (NewRow (Knd.int .i64) 3 (depthsL l y.code) w) := by
  have hm := hfit.n12
  have hym := List.mem_of_getElem? hy
  have n1 := hfit.c1 y hym
  have n120 := hfit.c120 y hym
  obtain ⟨ad, A2, c2, rfl, _, _, q2', hq, hr2⟩ := kFunc_at hr f y hy
  have q2 := kept (bl_alloc (Below.refl _ _) (.cells #[.slice A t.length c, .slice (some ad) l.length d] 36 (0, 0))) q2'
  have hfl : f < l.length := (List.getElem?_eq_some_iff.1 hy).1
  have HY := Lib.hid hy
  clear hy q2'
  obtain ⟨R, hR⟩ : ∃ R, depthsL l y.code = R := ⟨_, rfl⟩
  rw [hR]
  have HR := Lib.hid hR
  clear hR
  have hS0 := ((St.start w).made (.cells #[.slice A t.length c, .slice (some ad) l.length d] 36 (0, 0))).litAt (enc := Value.int .i64) (h1 := fun _ => rfl) (e := 3) [] #[] rfl (w.heap.size + 1) (by simp) 0 rfl (by simp)
  go_enter Tryz.func209, Tryz.ntmps209
  go_wp2
  clear q2
  go_loopw [6, 7] (fun v i wr => ∃ (k : Nat) (F : List Nat), k ≤ y.code.length ∧ i = .int .i64 k ∧ St w [Res.own (Knd.int .i64) 3 v (List.replicate k (-1)) F, Res.box w.heap.size (.cells #[.slice A t.length c, .slice (some ad) l.length d] 36 (0, 0))] wr) (fun _ i _ => y.code.length - (intOf i).toNat)
  case atStart => exact ⟨0, [w.heap.size + 1], by omega, rfl, hS0⟩
  case round =>
    clear hS0
    obtain ⟨k, F, hk, rfl, hS⟩ := hrel
    by_cases hlt : k < y.code.length
    · go_wp2_with (at_builtin; refine Knd.wp_app1 rfl _ _ _ rfl 3 Tryz.underlying81 (.int .i64 0) 8 infoInt rfl rfl ((hS.al _).own_ 0 rfl) _ _ _ _ _ (blkAt _ _ (by simp)) rfl (by (try simp [maxLen]); (try omega)) (by (try simp); (try omega)) ?_; rintro gq cq wq hO hB hg; have hSq := (hS.al _).app1 0 rfl hO hB hg; clear hO hB hg hS; have hS := hSq; clear hSq)
      go_roundw
      case rel => exact ⟨k + 1, _, by omega, by go_num, by rw [List.replicate_succ']; simpa [Knd.int] using hS⟩
      case measure => simp [intOf]; omega
    obtain rfl : k = y.code.length := by omega
    obtain ⟨g, cg, hv, hgF⟩ := own_form (hS.get 0 rfl) (by simp; omega)
    rw [List.length_replicate] at hv
    subst hv
    have u0 := hS.cell1 0 rfl 0 (-1) (by rw [List.getElem?_replicate, if_pos (by omega)])
    have f0 := hS.free1 0 rfl 0
    have hS2 := hS.put1 0 rfl 0 (by simp; omega) (0 : Int)
    have HS2 := Lib.hid hS2
    clear hS hS2
    go_wp2
    go_loopg [8] (y.code.length + 1) (fun k more wr => ∃ (s : List Int) (b : Bool), more = .bool b ∧ Hgt y.code.length s ∧ Hid (if b then fixD l y.code k s = R ∧ negs s < k else s = R) ∧ St w [Res.own (Knd.int .i64) 3 (.slice (some ⟨g, 0, none⟩) y.code.length cg) s F, Res.box w.heap.size (.cells #[.slice A t.length c, .slice (some ad) l.length d] 36 (0, 0))] wr)
    case atStart => exact ⟨initD y.code.length, true, rfl, Hgt.init _, Lib.hid (by rw [if_pos rfl]; exact ⟨HR.out, by have := negs_le (initD y.code.length); have := (Hgt.init y.code.length).1; omega⟩), HS2.out⟩
    case round =>
      clear HS2 u0 f0
      obtain ⟨s, b, rfl, hH, hI, hS⟩ := hrel
      cases b
      · have e : s = R := by simpa using hI.out
        subst e
        go_wp2
        go_ret
        exact hS.outRow 0 rfl
      have hI0 := hI.out
      rw [if_pos rfl] at hI0
      obtain ⟨hI1, hI2⟩ := hI0
      obtain ⟨k, rfl⟩ : ∃ k, gk = k + 1 := ⟨gk - 1, by omega⟩
      obtain ⟨Q, hQ⟩ : ∃ Q, sweepD l y.code.length y.code 0 (s, false) = Q := ⟨_, rfl⟩
      have hSw := sweepD_fit (l := l) (n := y.code.length) hfit.par y.code 0 (s, false) (fun x hx => hfit.fit hym hx) (by omega) hH
      have HQ := Lib.hid hQ
      have HI := Lib.hid (show fixD l y.code (k + 1) s = R from hI1)
      have HW := Lib.hid hSw
      have HN := Lib.hid hI2
      clear hI hI1 hI2 hQ hSw
      go_wp2
      go_loopw [8, 9] (fun more i wr => ∃ (pc : Nat) (s' : List Int) (b' : Bool), pc ≤ y.code.length ∧ more = .bool b' ∧ i = .int .i64 pc ∧ Hgt y.code.length s' ∧ Hid (sweepD l y.code.length (y.code.drop pc) pc (s', b') = Q) ∧ St w [Res.own (Knd.int .i64) 3 (.slice (some ⟨g, 0, none⟩) y.code.length cg) s' F, Res.box w.heap.size (.cells #[.slice A t.length c, .slice (some ad) l.length d] 36 (0, 0))] wr) (fun _ i _ => y.code.length - (intOf i).toNat)
      case atStart => exact ⟨0, s, false, by omega, rfl, rfl, hH, HQ, hS⟩
      case round =>
        clear hS hH
        obtain ⟨pc, s', b', hpc, rfl, rfl, hH, hQ, hS⟩ := hrel
        by_cases hlt : pc < y.code.length
        · obtain ⟨x, hx⟩ := get_exU y.code pc hlt
          obtain ⟨ad2, rfl, r0, r1⟩ := kIns_at (hr2.below hS.bel) pc x hx
          have hQ2 := Lib.hid ((sweepD_at hx (s', b')).symm.trans hQ.out)
          have hxf := hfit.fit hym (List.mem_of_getElem? hx)
          have hlen : pc < s'.length := by rw [hH.1]; exact hlt
          have u0 := hS.cell1 0 rfl pc _ (at0_get hlen)
          have hat := hH.at_ pc
          obtain ⟨h, hh⟩ : ∃ h, at0 s' pc = h := ⟨_, rfl⟩
          rw [hh] at u0 hat
          have Hh := Lib.hid hh
          clear hx hQ hlen hh
          have hu := uses_fit l x.op x.a hfit.par
          have C := uses03 A (some ad) c d t l x.op x.a
          have hK1 := fun k => Lib.hid (stepD_skip (n := y.code.length) (pc := pc) (s := (s', b')) (x := x) (h := h) Hh.out hu.1 k)
          have hK2 := fun k1 k2 => Lib.hid (stepD_go (n := y.code.length) (pc := pc) (s := (s', b')) (x := x) (h := h) Hh.out hu.1 k1 k2)
          have hL0 : leftOf l x h = h - (uses l x.op x.a).1 + (uses l x.op x.a).2 := rfl
          rw [hL0] at hK1 hK2
          clear hL0
          generalize (uses l x.op x.a).1 = pops at hu C hK1 hK2
          generalize (uses l x.op x.a).2 = pus at hu C hK1 hK2
          obtain ⟨v1, v2, v3, v4⟩ := hu
          have hS0 := hS
          go_wp2
          go_region_held3 (fun w' => w'.cell? ⟨w.heap.size, 0, none⟩ = some (.slice A t.length c) ∧ w'.cell? ⟨w.heap.size, 1, none⟩ = some (.slice (some ad) l.length d) ∧ w'.cell? (ad2.add (pc * 2)) = some (.int .i64 x.op) ∧ w'.cell? ⟨(ad2.add (pc * 2)).block, (ad2.add (pc * 2)).off + 1, none⟩ = some (.int .i64 x.a)) ((refine ⟨?_, ?_, ?_, ?_⟩ <;> first | exact hS0.cell 1 rfl 0 | exact hS0.cell 1 rfl 1 | exact r0 | exact r1)) (first | (go_at_call 232; refine (C _ (hr.below hS0.drew.bel) (by omega)).mono ?_; rintro e w' ⟨rfl, hb2⟩; have u0 := kept hb2 u0; have r0 := kept hb2 r0; have r1 := kept hb2 r1; have hS0 := hS0.drew.step hb2))
          clear hS
          by_cases k0 : h < pops ∨ 16 < h - pops + pus
          · have HST := hK1 k0
            clear hK1 hK2
            by_cases k1 : h < pops
            · go_wp2
              go_roundw
              case rel => exact ⟨pc + 1, s', b', by omega, rfl, by go_num, hH, Lib.hid (by rw [← hQ2.out, HST.out]), hS0⟩
              case measure => simp [intOf]; omega
            · have k2 : 16 < h - pops + pus := by omega
              have k1' : pops ≤ h := by omega
              go_wp2
              go_roundw
              case rel => exact ⟨pc + 1, s', b', by omega, rfl, by go_num, hH, Lib.hid (by rw [← hQ2.out, HST.out]), hS0⟩
              case measure => simp [intOf]; omega
          · have k1' : pops ≤ h := by omega
            have k2' : h - pops + pus ≤ 16 := by omega
            have hQ3 := hK2 k1' k2'
            clear hK1 hK2 k0
            obtain ⟨left, hl⟩ : ∃ left, h - pops + pus = left := ⟨_, rfl⟩
            have HLE := Lib.hid hl
            have hl0 : 0 ≤ left := by omega
            have hl1 : left ≤ 16 := by omega
            clear hl
            go_wp2_with fail
            refine (next03 x pc _ (by omega)).mono ?_
            intro e w4 hn
            obtain ⟨v2, F2, rfl, hS1⟩ := hS0.newRow hn
            obtain ⟨A3, c3, rfl, _, _⟩ := hS1.row 0 rfl
            clear hn hS0 u0 r0 r1
            have HNF := Lib.hid (nexts_fit hxf hlt)
            have hnl : (nexts x pc).length ≤ 2 := by unfold nexts; split <;> (try split) <;> (try split) <;> simp
            obtain ⟨ns, hns⟩ : ∃ ns, nexts x pc = ns := ⟨_, rfl⟩
            rw [hns] at hS1 HNF hQ3 hnl
            rw [hns]
            rw [HLE.out] at hQ3 ⊢
            clear hns
            go_wp2
            go_loopw [8, 14] (fun more i wr => ∃ (j : Nat) (s2 : List Int) (b2 : Bool), j ≤ ns.length ∧ more = .bool b2 ∧ i = .int .i64 j ∧ Hgt y.code.length s2 ∧ Hid ((ns.drop j).foldl (put1 y.code.length left) (s2, b2) = stepD l y.code.length x pc (s', b')) ∧ St w [Res.own (Knd.int .i64) 3 (.slice A3 ns.length c3) ns F2, Res.own (Knd.int .i64) 3 (.slice (some ⟨g, 0, none⟩) y.code.length cg) s2 F, Res.box w.heap.size (.cells #[.slice A t.length c, .slice (some ad) l.length d] 36 (0, 0))] wr) (fun _ i _ => ns.length - (intOf i).toNat)
            case atStart => exact ⟨0, s', b', by omega, rfl, rfl, hH, Lib.hid hQ3.out.symm, hS1⟩
            case round =>
              clear hS1 hH
              obtain ⟨j, s2, b2, hj, rfl, rfl, hH, hP, hS⟩ := hrel
              by_cases hlt2 : j < ns.length
              · obtain ⟨to, hto⟩ := get_exU ns j hlt2
                obtain ⟨hto0, hto1⟩ := HNF.out to (List.mem_of_getElem? hto)
                obtain ⟨ad3, rfl, p0⟩ := hS.cellR 0 rfl j to hto
                obtain ⟨m, rfl⟩ : ∃ m : Nat, to = m := ⟨to.toNat, by omega⟩
                have HT := Lib.hid hto
                clear hto
                have hP0 := hP.out
                rw [puts_at HT.out] at hP0
                by_cases hm1 : m < y.code.length
                · have hml : m < s2.length := by rw [hH.1]; exact hm1
                  have u1 := hS.cell1 1 rfl m _ (at0_get hml)
                  have f1 := hS.free1 1 rfl m
                  have hu := hH.at_ m
                  obtain ⟨u, hu1⟩ : ∃ u, at0 s2 m = u := ⟨_, rfl⟩
                  rw [hu1] at u1 hu
                  by_cases hu0 : u < 0
                  · rw [put1_yes hm1 (by rw [hu1]; exact hu0)] at hP0
                    have hS3 := Lib.hid (hS.put1 1 rfl m hml left)
                    have hP3 := Lib.hid hP0
                    clear hP0 hP hu1 hml hS
                    go_wp2
                    go_roundw
                    case rel => exact ⟨j + 1, s2.set m left, true, by omega, rfl, by go_num, hH.set m (by omega), hP3, hS3.out⟩
                    case measure => simp [intOf]; omega
                  · rw [put1_no (by rw [hu1]; omega)] at hP0
                    have hP3 := Lib.hid hP0
                    have hu0' : 0 ≤ u := by omega
                    clear hP0 hP hu1 hml
                    go_wp2
                    go_roundw
                    case rel => exact ⟨j + 1, s2, b2, by omega, rfl, by go_num, hH, hP3, hS⟩
                    case measure => simp [intOf]; omega
                · rw [put1_no (by omega)] at hP0
                  have hP3 := Lib.hid hP0
                  have hm1' : decide (m < y.code.length) = false := decide_eq_false hm1
                  clear hP0 hP
                  go_wp2
                  go_roundw
                  case rel => exact ⟨j + 1, s2, b2, by omega, rfl, by go_num, hH, hP3, hS⟩
                  case measure => simp [intOf]; omega
              · obtain rfl : j = ns.length := by omega
                have hP2 : Hid ((s2, b2) = stepD l y.code.length x pc (s', b')) := Lib.hid (by have := hP.out; rw [List.drop_length] at this; simpa using this)
                go_wp2
                go_roundw
                case rel => exact ⟨pc + 1, s2, b2, by omega, rfl, by go_num, hH, Lib.hid (by rw [← hQ2.out, hP2.out]), hS.drop⟩
                case measure => simp [intOf]; omega
        · obtain rfl : pc = y.code.length := by omega
          have hQ2 : (s', b') = Q := by have := hQ.out; rwa [List.drop_length] at this
          have hI1 := HI.out
          unfold fixD at hI1
          rw [HQ.out, ← hQ2] at hI1
          have hF := HW.out.2
          rw [HQ.out, ← hQ2] at hF
          have hN := HN.out
          have hI2 : Hid (if b' then fixD l y.code k s' = R ∧ negs s' < k else s' = R) := Lib.hid (by
            cases b'
            · simpa using hI1
            · rcases hF.2 with h3 | h3
              · simp at h3
              · exact ⟨by simpa using hI1, by have := h3.2; simp only at this; omega⟩)
          clear hQ2 hI1 hF hN
          go_wp2
          go_roundg k
          case rel => exact ⟨s', b', rfl, hH, hI2, hS⟩
          case measure => omega
end Go.Proofs.YthinhlcfpaaldaaGreat.Dat
