/- The laws of append at one operation, for regions that draw their order. Written by opagen.py. -/
import Derived.Test.YticlknijmnddeaaCat
namespace Go.Proofs.Yticlknijmnddeaa.Mem
open Go Go.RowKit
set_option linter.unusedVariables false
set_option linter.unusedSimpArgs false
namespace Knd
section
variable {α : Type} {d : Knd α} {e : Nat} {w w1 : World} {v : Value} {xs zs : List α} {F : List Nat} {Fs Gs : List (List Nat)} {cs cs' : List Value} {W : World}
theorem op_app {P : Program} {o : Oper} {a : Act} {K : Act → World → Prop} {Q : Exit → Act → World → Prop} {W : World} (d : Knd α) (s x : Operand) (t : TypeId)
    (ho : o.op = .call { callee := .builtin .append, args := #[s, x], argTypes := #[t, t] }) (e : TypeId) (ht : P.underlying t = some (.slice e)) (z : Value) (bytes : Nat) (hinfo : (P.info? e).map (fun i => (i.zero, i.size, i.bytes)) = some (some z, d.sz, bytes)) (hz : z.cells.size = d.sz) (hsz : 0 < d.sz)
    (hs : a.eval s = v) (hown : OwnF d e W v xs Fs) (B : Nat) (t' : TypeId) (fr : Nat × Nat) (c : Nat) (hB : W.heap[B]? = some (.cells cs'.toArray t' fr)) (hx : a.eval x = .slice (some ⟨B, 0, none⟩) zs.length c) (hels : Els d W zs cs' Gs)
    (hd : ∀ q ∈ v.ownBlock.toList, q ∉ Fs.flatten ∧ q ∉ Gs.flatten)
    (hm : 0 < zs.length) (h63 : xs.length + zs.length ≤ maxLen) (hbytes : (xs.length + zs.length) * bytes ≤ 140737488355328)
    (h : ∀ g cap w', OwnF d e w' (.slice (some ⟨g, 0, none⟩) (xs.length + zs.length) cap) (xs ++ zs) (Fs ++ Gs) → But v.ownBlock.toList W w' → (v.ownBlock = some g ∨ g = W.heap.size) → K (a.put o.dst (.slice (some ⟨g, 0, none⟩) (xs.length + zs.length) cap)) w') : Oper.wp P o a W K Q := by
  obtain ⟨i0, hi, hzz⟩ := Option.map_eq_some_iff.1 hinfo
  simp only [Prod.mk.injEq] at hzz
  obtain ⟨hz0, hz1, hz2⟩ := hzz
  obtain ⟨inner, ho1, hr⟩ := hown
  have hnews := World.news_of_block hB
  have h1 : ∀ u ∈ cs', u.oneCell' = true := by
    intro u hu
    obtain ⟨j, hj⟩ := List.mem_iff_getElem?.1 hu
    have hjl : j < cs'.length := (List.getElem?_eq_some_iff.1 hj).1
    rw [hels.1] at hjl
    have hq : j / d.sz < zs.length := (Nat.div_lt_iff_lt_mul hsz).2 hjl
    have hK := Els.K (A := 0) hels (j / d.sz) _ (List.getElem?_eq_getElem hq)
    refine d.K_one hK u (List.mem_iff_getElem?.2 ⟨j % d.sz, ?_⟩)
    rw [List.getElem?_take_of_lt (Nat.mod_lt _ hsz), List.getElem?_drop, Nat.mul_comm, Nat.div_add_mod]
    exact hj
  refine wp_append_lies W s x t ho 0 e i0 z d.sz bytes ht hi hz0 hz1 hz2 hz hsz v xs.length inner hs ho1 ⟨B, 0, none⟩ zs.length c cs' hx hels.1 (by simpa using hnews) h1 hm h63 hbytes (Nat.zero_le _) _ rfl ?_
  intro g cap w' hown' hgr hg hlt
  have hfar : ∀ q ∈ (Fs ++ Gs).flatten, w'.heap[q]? = W.heap[q]? := by
    intro q hq
    have hq2 : q ∈ Fs.flatten ∨ q ∈ Gs.flatten := by simpa using hq
    have hlt : q < W.heap.size := by
      rcases hq2 with hq | hq
      · obtain ⟨Fj, hFj, hgj⟩ := List.mem_flatten.1 hq
        obtain ⟨j, hj⟩ := List.mem_iff_getElem?.1 hFj
        have hl : j < xs.length := by rw [← hr.2.1]; exact (List.getElem?_eq_some_iff.1 hj).1
        exact d.O_lt (hr.2.2 j _ Fj (List.getElem?_eq_getElem hl) hj) q hgj
      · obtain ⟨Fj, hFj, hgj⟩ := List.mem_flatten.1 hq
        obtain ⟨j, hj⟩ := List.mem_iff_getElem?.1 hFj
        have hl : j < zs.length := by rw [← hels.2.1]; exact (List.getElem?_eq_some_iff.1 hj).1
        exact d.O_lt (hels.2.2 j _ Fj (List.getElem?_eq_getElem hl) hj) q hgj
    refine hgr.block q hlt (fun he => ?_)
    have := hd q (by rw [← he]; simp)
    rcases hq2 with hq | hq
    · exact this.1 hq
    · exact this.2 hq
  refine h g cap w' ⟨inner ++ cs', ?_, (hr.append hels).frame hfar⟩ (But.grown hgr) hg
  rw [List.length_append]
  exact hown'

theorem op_appRow {P : Program} {o : Oper} {a : Act} {K : Act → World → Prop} {Q : Exit → Act → World → Prop} (d : Knd α) (hKO : ∀ w x cs, d.K w x cs → d.O w x cs []) (s x : Operand) (t : TypeId)
    (ho : o.op = .call { callee := .builtin .append, args := #[s, x], argTypes := #[t, t] }) (e : TypeId) (ht : P.underlying t = some (.slice e)) (z : Value) (bytes : Nat) (hinfo : (P.info? e).map (fun i => (i.zero, i.size, i.bytes)) = some (some z, d.sz, bytes)) (hz : z.cells.size = d.sz) (hsz : 0 < d.sz)
    (hs : a.eval s = v) (hown : OwnF d e W v xs Fs) (ad : Addr) (c : Nat) (hr : d.Row W (some ad) zs.length zs) (hx : a.eval x = .slice (some ad) zs.length c)
    (hd : ∀ q ∈ v.ownBlock.toList, q ∉ Fs.flatten)
    (hm : 0 < zs.length) (h63 : xs.length + zs.length ≤ maxLen) (hbytes : (xs.length + zs.length) * bytes ≤ 140737488355328)
    (h : ∀ g cap w', OwnF d e w' (.slice (some ⟨g, 0, none⟩) (xs.length + zs.length) cap) (xs ++ zs) (Fs ++ List.replicate zs.length []) → But v.ownBlock.toList W w' → (v.ownBlock = some g ∨ g = W.heap.size) → K (a.put o.dst (.slice (some ⟨g, 0, none⟩) (xs.length + zs.length) cap)) w') : Oper.wp P o a W K Q := by
  obtain ⟨i0, hi, hzz⟩ := Option.map_eq_some_iff.1 hinfo
  simp only [Prod.mk.injEq] at hzz
  obtain ⟨hz0, hz1, hz2⟩ := hzz
  obtain ⟨inner, ho1, hrr⟩ := hown
  obtain ⟨cs', hl, hK, hnews⟩ := hr.flat zs.length (Nat.le_refl _)
  have hels : Els d W zs cs' (List.replicate zs.length []) := ⟨hl, by simp, fun j p Fj hp hF => by
    have hj := (List.getElem?_eq_some_iff.1 hp).1
    have hFj : Fj = [] := by
      obtain ⟨_, h9⟩ := List.getElem?_eq_some_iff.1 hF
      simpa using h9.symm
    subst hFj
    exact hKO _ _ _ (hK j p hj hp)⟩
  have h1 : ∀ u ∈ cs', u.oneCell' = true := by
    intro u hu
    obtain ⟨j, hj⟩ := List.mem_iff_getElem?.1 hu
    have hjl : j < cs'.length := (List.getElem?_eq_some_iff.1 hj).1
    rw [hl] at hjl
    have hq : j / d.sz < zs.length := (Nat.div_lt_iff_lt_mul hsz).2 hjl
    have hKK := hK (j / d.sz) _ hq (List.getElem?_eq_getElem hq)
    refine d.K_one hKK u (List.mem_iff_getElem?.2 ⟨j % d.sz, ?_⟩)
    rw [List.getElem?_take_of_lt (Nat.mod_lt _ hsz), List.getElem?_drop, Nat.mul_comm, Nat.div_add_mod]
    exact hj
  refine wp_append_lies W s x t ho 0 e i0 z d.sz bytes ht hi hz0 hz1 hz2 hz hsz v xs.length inner hs ho1 ad zs.length c cs' hx hl hnews h1 hm h63 hbytes (Nat.zero_le _) _ rfl ?_
  intro g cap w' hown' hgr hg hlt
  have hfar : ∀ q ∈ Fs.flatten, w'.heap[q]? = W.heap[q]? := by
    intro q hq
    obtain ⟨Fj, hFj, hgj⟩ := List.mem_flatten.1 hq
    obtain ⟨j, hj⟩ := List.mem_iff_getElem?.1 hFj
    have hl2 : j < xs.length := by rw [← hrr.2.1]; exact (List.getElem?_eq_some_iff.1 hj).1
    have hlt2 : q < W.heap.size := d.O_lt (hrr.2.2 j _ Fj (List.getElem?_eq_getElem hl2) hj) q hgj
    exact hgr.block q hlt2 (fun he => hd q (by rw [← he]; simp) hq)
  have hfar2 : ∀ q ∈ (Fs ++ List.replicate zs.length ([] : List Nat)).flatten, w'.heap[q]? = W.heap[q]? := by
    intro q hq
    have : q ∈ Fs.flatten := by simpa using hq
    exact hfar q this
  refine h g cap w' ⟨inner ++ cs', ?_, (hrr.append hels).frame hfar2⟩ (But.grown hgr) hg
  rw [List.length_append]
  exact hown'

end
theorem op_appE {α : Type} {P : Program} {o : Oper} {a : Act} {K : Act → World → Prop} {Q : Exit → Act → World → Prop} {W : World} (d : Knd α) (s x : Operand) (t : TypeId)
    (ho : o.op = .call { callee := .builtin .append, args := #[s, x], argTypes := #[t, t] }) (e : TypeId) (ht : P.underlying t = some (.slice e)) (z : Value) (bytes : Nat) (hinfo : (P.info? e).map (fun i => (i.zero, i.size, i.bytes)) = some (some z, d.sz, bytes)) (hz : z.cells.size = d.sz) (hsz : 0 < d.sz)
    {v : Value} {xs : List α} {F G : List Nat} (hs : a.eval s = v) (hown : Own d e W v xs F) (B : Nat) (t' : TypeId) (fr : Nat × Nat) (c : Nat) (y : α) {cs' : List Value} (hB : W.heap[B]? = some (.cells cs'.toArray t' fr)) (hx : a.eval x = .slice (some ⟨B, 0, none⟩) 1 c) (hO : d.O W y cs' G) (hnd : (F ++ G).Nodup)
    (h63 : xs.length + 1 ≤ maxLen) (hbytes : (xs.length + 1) * bytes ≤ 140737488355328)
    (h : ∀ g cap w' F', Own d e w' (.slice (some ⟨g, 0, none⟩) (xs.length + 1) cap) (xs ++ [y]) F' → But F W w' → F'.Nodup → (∀ q ∈ F', q ∈ F ∨ q ∈ G ∨ W.heap.size ≤ q) → K (a.put o.dst (.slice (some ⟨g, 0, none⟩) (xs.length + 1) cap)) w') : Oper.wp P o a W K Q := by
  have hFlt := hown.lt
  obtain ⟨Fs, hF, rfl⟩ := hown.fs
  have hl := d.K_len (d.K_of_O hO)
  have hGlt := d.O_lt hO
  have hnd1 := List.nodup_append.1 hnd
  have hnd2 := List.nodup_append.1 hnd1.1
  refine op_app d (zs := [y]) (Gs := [G]) s x t ho e ht z bytes hinfo hz hsz hs hF B t' fr c (cs' := cs') hB hx ?_ (fun q hq => ⟨fun hm => hnd2.2.2 q hq q hm rfl, fun hm => hnd1.2.2 q (List.mem_append_left _ hq) q (by simpa using hm) rfl⟩) (by simp) (by simpa using h63) (by simpa using hbytes) ?_
  · refine ⟨by simp [hl], rfl, fun j p Fj hp hFj => ?_⟩
    have hj : j = 0 := by
      have := (List.getElem?_eq_some_iff.1 hp).1
      simp at this
      exact this
    subst hj
    simp at hp hFj
    subst hp
    subst hFj
    rw [Nat.zero_mul, List.drop_zero, ← hl, List.take_length]
    exact hO
  · intro g cap w' h2 h3 h4
    have h5 := h2.own
    have e5 : (Fs ++ [G]).flatten = Fs.flatten ++ G := by simp
    rw [e5] at h5
    refine h g cap w' (g :: (Fs.flatten ++ G)) (by simpa [Value.ownBlock] using h5) (h3.mono (fun q hq => List.mem_append_left _ hq)) ?_ ?_
    · refine List.nodup_cons.2 ⟨fun hm => ?_, List.nodup_append.2 ⟨hnd2.2.1, hnd1.2.1, fun p hp q hq => hnd1.2.2 p (List.mem_append_right _ hp) q hq⟩⟩
      rcases h4 with h4 | h4
      · have hg : g ∈ v.ownBlock.toList := by rw [h4]; simp
        rcases List.mem_append.1 hm with hm | hm
        · exact hnd2.2.2 g hg g hm rfl
        · exact hnd1.2.2 g (List.mem_append_left _ hg) g hm rfl
      · rcases List.mem_append.1 hm with hm | hm
        · have := hFlt g (List.mem_append_right _ hm)
          omega
        · have := hGlt g hm
          omega
    · intro q hq
      rcases List.mem_cons.1 hq with rfl | hq
      · rcases h4 with h4 | h4
        · exact .inl (List.mem_append_left _ (by rw [h4]; simp))
        · exact .inr (.inr (by omega))
      · rcases List.mem_append.1 hq with hq | hq
        · exact .inl (List.mem_append_right _ hq)
        · exact .inr (.inl hq)

theorem op_appRowE {α : Type} {P : Program} {o : Oper} {a : Act} {K : Act → World → Prop} {Q : Exit → Act → World → Prop} {W : World} (d : Knd α) (hKO : ∀ w x cs, d.K w x cs → d.O w x cs []) (s x : Operand) (t : TypeId)
    (ho : o.op = .call { callee := .builtin .append, args := #[s, x], argTypes := #[t, t] }) (e : TypeId) (ht : P.underlying t = some (.slice e)) (z : Value) (bytes : Nat) (hinfo : (P.info? e).map (fun i => (i.zero, i.size, i.bytes)) = some (some z, d.sz, bytes)) (hz : z.cells.size = d.sz) (hsz : 0 < d.sz)
    {v : Value} {xs zs : List α} {F : List Nat} (hs : a.eval s = v) (hown : Own d e W v xs F) (hnd : F.Nodup) (ad : Addr) (c : Nat) (hr : d.Row W (some ad) zs.length zs) (hx : a.eval x = .slice (some ad) zs.length c)
    (hm : 0 < zs.length) (h63 : xs.length + zs.length ≤ maxLen) (hbytes : (xs.length + zs.length) * bytes ≤ 140737488355328)
    (h : ∀ g cap w' F', Own d e w' (.slice (some ⟨g, 0, none⟩) (xs.length + zs.length) cap) (xs ++ zs) F' → But F W w' → F'.Nodup → (∀ q ∈ F', q ∈ F ∨ W.heap.size ≤ q) → K (a.put o.dst (.slice (some ⟨g, 0, none⟩) (xs.length + zs.length) cap)) w') : Oper.wp P o a W K Q := by
  have hFlt := hown.lt
  obtain ⟨Fs, hF, rfl⟩ := hown.fs
  have hnd2 := List.nodup_append.1 hnd
  refine op_appRow d hKO s x t ho e ht z bytes hinfo hz hsz hs hF ad c hr hx (fun q hq hm => hnd2.2.2 q hq q hm rfl) hm h63 hbytes ?_
  intro g cap w' h2 h3 h4
  have h5 := h2.own
  have e5 : (Fs ++ List.replicate zs.length ([] : List Nat)).flatten = Fs.flatten := by simp
  rw [e5] at h5
  refine h g cap w' (g :: Fs.flatten) (by simpa [Value.ownBlock] using h5) (h3.mono (fun q hq => List.mem_append_left _ hq)) ?_ ?_
  · refine List.nodup_cons.2 ⟨fun hm => ?_, hnd2.2.1⟩
    rcases h4 with h4 | h4
    · have hg : g ∈ v.ownBlock.toList := by rw [h4]; simp
      exact hnd2.2.2 g hg g hm rfl
    · have := hFlt g (List.mem_append_right _ hm)
      omega
  · intro q hq
    rcases List.mem_cons.1 hq with rfl | hq
    · rcases h4 with h4 | h4
      · exact .inl (List.mem_append_left _ (by rw [h4]; simp))
      · exact .inr (by omega)
    · exact .inl (List.mem_append_right _ hq)

theorem op_app0 {α : Type} {P : Program} {o : Oper} {a : Act} {K : Act → World → Prop} {Q : Exit → Act → World → Prop} {W : World} (d : Knd α) (s x : Operand) (t : TypeId)
    (ho : o.op = .call { callee := .builtin .append, args := #[s, x], argTypes := #[t, t] }) (e : TypeId) (ht : P.underlying t = some (.slice e)) (i : TypeInfo) (hi : P.info? e = some i)
    {v : Value} {xs : List α} {F : List Nat} (hs : a.eval s = v) (hown : Own d e W v xs F) (A : Option Addr) (n c : Nat) (hn : n = 0) (hx : a.eval x = .slice A n c)
    (h : K (a.put o.dst v) W) : Oper.wp P o a W K Q := by
  subst hn
  obtain ⟨inner, Fs, ho1, _, _⟩ := hown
  have hrun : (Builtin.append_ #[t, t] o.type #[v, .slice A 0 c]).run P W = .ok v W := by
    rcases ho1.2 with ⟨rfl, _⟩ | ⟨g, cap, cur, rfl, _, _, hnc, _⟩
    · cases A <;> simp [Builtin.append_, run_underlying ht, sizeOf, typeInfo, hi, Builtin.lenOf, Builtin.firstCells, loadCells, loadCellsFrom, Result.andThen]
    · cases A <;> simp [Builtin.append_, run_underlying ht, sizeOf, typeInfo, hi, Builtin.lenOf, Builtin.firstCells, hnc, storeCells, loadCells, loadCellsFrom, Result.andThen]
  unfold Oper.wp
  simp [execOp, ho, resolve, invoke, builtin, hs, hx, hrun, Result.andThen]
  exact h

theorem op_appAny {α : Type} {P : Program} {o : Oper} {a : Act} {K : Act → World → Prop} {Q : Exit → Act → World → Prop} {W : World} (d : Knd α) (hKO : ∀ w x cs, d.K w x cs → d.O w x cs []) (s x : Operand) (t : TypeId)
    (ho : o.op = .call { callee := .builtin .append, args := #[s, x], argTypes := #[t, t] }) (e : TypeId) (ht : P.underlying t = some (.slice e)) (z : Value) (bytes : Nat) (hinfo : (P.info? e).map (fun i => (i.zero, i.size, i.bytes)) = some (some z, d.sz, bytes)) (hz : z.cells.size = d.sz) (hsz : 0 < d.sz)
    {v : Value} {xs zs : List α} {F : List Nat} (hs : a.eval s = v) (hown : Own d e W v xs F) (hnd : F.Nodup) (A : Option Addr) (c : Nat) (hr : d.Row W A zs.length zs) (hx : a.eval x = .slice A zs.length c)
    (h63 : xs.length + zs.length ≤ maxLen) (hbytes : (xs.length + zs.length) * bytes ≤ 140737488355328)
    (h : ∀ v' w' F', Own d e w' v' (xs ++ zs) F' → But F W w' → F'.Nodup → (∀ q ∈ F', q ∈ F ∨ W.heap.size ≤ q) → K (a.put o.dst v') w') : Oper.wp P o a W K Q := by
  rcases Nat.eq_zero_or_pos zs.length with h0 | h0
  · obtain ⟨i0, hi, _⟩ := Option.map_eq_some_iff.1 hinfo
    have hz0 := List.eq_nil_of_length_eq_zero h0
    refine op_app0 d s x t ho e ht i0 hi hs hown A zs.length c h0 hx (h v W F ?_ (But.refl _ _) hnd (fun q hq => .inl hq))
    rw [hz0, List.append_nil]
    exact hown
  · obtain ⟨ad, rfl, _⟩ := hr.2.2 h0
    exact op_appRowE d hKO s x t ho e ht z bytes hinfo hz hsz hs hown hnd ad c hr hx h0 h63 hbytes (fun g cap w' F' h1 h2 h3 h4 => h _ w' F' h1 h2 h3 h4)

end Knd
end Go.Proofs.Yticlknijmnddeaa.Mem
