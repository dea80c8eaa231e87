/- append to a row of the call's own, with footprints. -/
import Derived.Test.YteoibjacgnmnpaaOwn
import Derived.Deep.AppendLies
import Derived.Lib.AppendStr
namespace Go.Proofs.Yteoibjacgnmnpaa.Mem
open Go Go.RowKit
set_option linter.unusedVariables false
set_option linter.unusedSimpArgs false
theorem But.grown {w w' : World} {row : Option Nat} (h : w.grownBy w' row) : But row.toList w w' := ⟨h.os, h.tape, h.output, h.size, fun k hk hn => h.block k hk (fun e => hn (by rw [← e]; simp))⟩
theorem But.then {F F' : List Nat} {w w1 w2 : World} (h : But F w w1) (k : But F' w1 w2) (hF : ∀ g ∈ F', g ∈ F ∨ w.heap.size ≤ g) : But F w w2 :=
  ⟨k.os.trans h.os, k.tape.trans h.tape, k.output.trans h.output, Nat.le_trans h.size k.size, fun i hi hn => (k.block i (Nat.lt_of_lt_of_le hi h.size) (fun hm => by
    rcases hF i hm with h1 | h1
    · exact hn h1
    · omega)).trans (h.block i hi hn)⟩
namespace Knd
section
variable {α : Type} {d : Knd α} {e : Nat} {w w1 : World} {v : Value} {xs zs : List α} {F : List Nat} {Fs Gs : List (List Nat)} {cs cs' : List Value}
theorem Els.append (h : Els d w xs cs Fs) (h' : Els d w zs cs' Gs) : Els d w (xs ++ zs) (cs ++ cs') (Fs ++ Gs) := by
  refine ⟨by rw [List.length_append, List.length_append, h.1, h'.1, Nat.add_mul], by rw [List.length_append, List.length_append, h.2.1, h'.2.1], fun j p Fj hp hF => ?_⟩
  rcases Nat.lt_or_ge j xs.length with hj | hj
  · rw [List.getElem?_append_left hj] at hp
    rw [List.getElem?_append_left (by rw [h.2.1]; exact hj)] at hF
    have hle : j * d.sz + d.sz ≤ cs.length := by rw [h.1, ← Nat.succ_mul]; exact Nat.mul_le_mul_right _ hj
    have e1 : ((cs ++ cs').drop (j * d.sz)).take d.sz = (cs.drop (j * d.sz)).take d.sz := by
      rw [List.drop_append_of_le_length (by omega), List.take_append_of_le_length (by rw [List.length_drop]; omega)]
    rw [e1]
    exact h.2.2 j p Fj hp hF
  · rw [List.getElem?_append_right hj] at hp
    rw [List.getElem?_append_right (by rw [h.2.1]; exact hj), h.2.1] at hF
    have e1 : (cs ++ cs').drop (j * d.sz) = cs'.drop ((j - xs.length) * d.sz) := by
      rw [List.drop_append, List.drop_eq_nil_of_le (by rw [h.1]; exact Nat.mul_le_mul_right _ hj), List.nil_append, h.1, Nat.sub_mul]
    rw [e1]
    exact h'.2.2 (j - xs.length) p Fj hp hF
/-- append(s, x...) at a plain region's list: x's cells stand in a block that is known whole. -/
theorem wp_app {P : Program} {ops : Array Oper} {rest : List Oper} {o : Oper} {a : Act} {Q : Exit → Act → World → Prop} {W : World} (d : Knd α) (hgd : o.guard = none) (s x : Operand) (t : TypeId)
    (ho : o.op = .call { callee := .builtin .append, args := #[s, x], argTypes := #[t, t] }) (e : TypeId) (ht : P.underlying t = some (.slice e)) (z : Value) (bytes : Nat) (hinfo : (P.info? e).map (fun i => (i.zero, i.size, i.bytes)) = some (some z, d.sz, bytes)) (hz : z.cells.size = d.sz) (hsz : 0 < d.sz)
    (hs : a.eval s = v) (hown : OwnF d e W v xs Fs) (B : Nat) (t' : TypeId) (fr : Nat × Nat) (c : Nat) (hB : W.heap[B]? = some (.cells cs'.toArray t' fr)) (hx : a.eval x = .slice (some ⟨B, 0, none⟩) zs.length c) (hels : Els d W zs cs' Gs)
    (hd : ∀ q ∈ v.ownBlock.toList, q ∉ Fs.flatten ∧ q ∉ Gs.flatten)
    (hm : 0 < zs.length) (h63 : xs.length + zs.length ≤ maxLen) (hbytes : (xs.length + zs.length) * bytes ≤ 140737488355328)
    (h : ∀ g cap w', OwnF d e w' (.slice (some ⟨g, 0, none⟩) (xs.length + zs.length) cap) (xs ++ zs) (Fs ++ Gs) → But v.ownBlock.toList W w' → (v.ownBlock = some g ∨ g = W.heap.size) → wpList P ops Q rest (a.put o.dst (.slice (some ⟨g, 0, none⟩) (xs.length + zs.length) cap)) w') : wpList P ops Q (o :: rest) a W := by
  obtain ⟨i0, hi, hzz⟩ := Option.map_eq_some_iff.1 hinfo
  simp only [Prod.mk.injEq] at hzz
  obtain ⟨hz0, hz1, hz2⟩ := hzz
  obtain ⟨inner, ho1, hr⟩ := hown
  have hnews := World.news_of_block hB
  have h1 : ∀ u ∈ cs', u.oneCell' = true := by
    intro u hu
    obtain ⟨j, hj⟩ := List.mem_iff_getElem?.1 hu
    have hjl : j < cs'.length := (List.getElem?_eq_some_iff.1 hj).1
    rw [hels.1] at hjl
    have hq : j / d.sz < zs.length := (Nat.div_lt_iff_lt_mul hsz).2 hjl
    have hK := Els.K (A := 0) hels (j / d.sz) _ (List.getElem?_eq_getElem hq)
    refine d.K_one hK u (List.mem_iff_getElem?.2 ⟨j % d.sz, ?_⟩)
    rw [List.getElem?_take_of_lt (Nat.mod_lt _ hsz), List.getElem?_drop, Nat.mul_comm, Nat.div_add_mod]
    exact hj
  refine wpList_append_lies W hgd s x t ho 0 e i0 z d.sz bytes ht hi hz0 hz1 hz2 hz hsz v xs.length inner hs ho1 ⟨B, 0, none⟩ zs.length c cs' hx hels.1 (by simpa using hnews) h1 hm h63 hbytes (Nat.zero_le _) _ rfl ?_
  intro g cap w' hown' hgr hg hlt
  have hfar : ∀ q ∈ (Fs ++ Gs).flatten, w'.heap[q]? = W.heap[q]? := by
    intro q hq
    have hq2 : q ∈ Fs.flatten ∨ q ∈ Gs.flatten := by simpa using hq
    have hlt : q < W.heap.size := by
      rcases hq2 with hq | hq
      · obtain ⟨Fj, hFj, hgj⟩ := List.mem_flatten.1 hq
        obtain ⟨j, hj⟩ := List.mem_iff_getElem?.1 hFj
        have hl : j < xs.length := by rw [← hr.2.1]; exact (List.getElem?_eq_some_iff.1 hj).1
        exact d.O_lt (hr.2.2 j _ Fj (List.getElem?_eq_getElem hl) hj) q hgj
      · obtain ⟨Fj, hFj, hgj⟩ := List.mem_flatten.1 hq
        obtain ⟨j, hj⟩ := List.mem_iff_getElem?.1 hFj
        have hl : j < zs.length := by rw [← hels.2.1]; exact (List.getElem?_eq_some_iff.1 hj).1
        exact d.O_lt (hels.2.2 j _ Fj (List.getElem?_eq_getElem hl) hj) q hgj
    refine hgr.block q hlt (fun he => ?_)
    have := hd q (by rw [← he]; simp)
    rcases hq2 with hq | hq
    · exact this.1 hq
    · exact this.2 hq
  refine h g cap w' ⟨inner ++ cs', ?_, (hr.append hels).frame hfar⟩ (But.grown hgr) hg
  rw [List.length_append]
  exact hown'
end
theorem flat_nil {α : Type} {enc : α → Value} {h1 : ∀ x, (enc x).oneCell' = true} {e : Nat} {w : World} {v : Value} {xs : List α} {Fs : List (List Nat)} (h : OwnF (scalar enc h1) e w v xs Fs) : Fs.flatten = [] := by
  obtain ⟨inner, ho, hr⟩ := h
  apply List.eq_nil_iff_forall_not_mem.2
  intro q hq
  obtain ⟨Fj, hFj, hg⟩ := List.mem_flatten.1 hq
  obtain ⟨j, hj⟩ := List.mem_iff_getElem?.1 hFj
  have hl : j < xs.length := by rw [← hr.2.1]; exact (List.getElem?_eq_some_iff.1 hj).1
  have := (hr.2.2 j _ Fj (List.getElem?_eq_getElem hl) hj).2
  rw [this] at hg
  simp at hg
theorem flat_own {α : Type} {enc : α → Value} {h1 : ∀ x, (enc x).oneCell' = true} {e : Nat} {w : World} {v : Value} {xs : List α} {F : List Nat} (h : Own (scalar enc h1) e w v xs F) : F = v.ownBlock.toList := by
  obtain ⟨Fs, ho, rfl⟩ := h.fs
  rw [flat_nil ho, List.append_nil]
/-- One element more, of a kind of one cell. -/
theorem wp_app1 {α : Type} {enc : α → Value} {h1 : ∀ x, (enc x).oneCell' = true} {P : Program} {ops : Array Oper} {rest : List Oper} {o : Oper} {a : Act} {Q : Exit → Act → World → Prop} {W : World} (hgd : o.guard = none) (s x : Operand) (t : TypeId)
    (ho : o.op = .call { callee := .builtin .append, args := #[s, x], argTypes := #[t, t] }) (e : TypeId) (ht : P.underlying t = some (.slice e)) (z : Value) (bytes : Nat) (hinfo : (P.info? e).map (fun i => (i.zero, i.size, i.bytes)) = some (some z, 1, bytes)) (hz : z.cells.size = 1)
    {v : Value} {xs : List α} {F : List Nat} (hs : a.eval s = v) (hown : Own (scalar enc h1) e W v xs F) (B : Nat) (t' : TypeId) (fr : Nat × Nat) (c : Nat) (y : α) (hB : W.heap[B]? = some (.cells #[enc y] t' fr)) (hx : a.eval x = .slice (some ⟨B, 0, none⟩) 1 c)
    (h63 : xs.length + 1 ≤ maxLen) (hbytes : (xs.length + 1) * bytes ≤ 140737488355328)
    (h : ∀ g cap w', Own (scalar enc h1) e w' (.slice (some ⟨g, 0, none⟩) (xs.length + 1) cap) (xs ++ [y]) [g] → But F W w' → (g ∈ F ∨ g = W.heap.size) → wpList P ops Q rest (a.put o.dst (.slice (some ⟨g, 0, none⟩) (xs.length + 1) cap)) w') : wpList P ops Q (o :: rest) a W := by
  obtain ⟨Fs, hF, rfl⟩ := hown.fs
  have hn := flat_nil hF
  refine wp_app (scalar enc h1) (zs := [y]) (Gs := [[]]) hgd s x t ho e ht z bytes hinfo hz (show 0 < 1 from Nat.one_pos) hs hF B t' fr c (cs' := [enc y]) hB hx ?_ (fun q _ => by rw [hn]; simp) (by simp) (by simpa using h63) (by simpa using hbytes) ?_
  · refine ⟨rfl, rfl, fun j p Fj hp hFj => ?_⟩
    have hj : j = 0 := by
      have := (List.getElem?_eq_some_iff.1 hp).1
      simp at this
      exact this
    subst hj
    simp at hp hFj
    subst hp
    subst hFj
    exact ⟨rfl, rfl⟩
  · intro g cap w' h2 h3 h4
    have h5 := h2.own
    have e5 : (Fs ++ [([] : List Nat)]).flatten = [] := by
      rw [List.flatten_append, hn]
      rfl
    rw [e5] at h5
    refine h g cap w' (by simpa [Value.ownBlock] using h5) (h3.mono (fun q hq => List.mem_append_left _ hq)) ?_
    rcases h4 with h4 | h4
    · exact .inl (List.mem_append_left _ (by rw [h4]; simp))
    · exact .inr h4
end Knd
end Go.Proofs.Yteoibjacgnmnpaa.Mem
