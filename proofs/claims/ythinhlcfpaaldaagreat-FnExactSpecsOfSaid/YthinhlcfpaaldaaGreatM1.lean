/- A bundle: AppR AppE Cat OpA Args StartX RegL Copy. -/
import Derived.Test.YthinhlcfpaaldaaGreatK2
import Derived.Laws.AppendOwnNone
import Derived.Test.YthinhlcfpaaldaaGreatLayG
import Derived.Test.YthinhlcfpaaldaaGreatK5
import Derived.Test.YthinhlcfpaaldaaGreatValOk
import Derived.Test.YthinhlcfpaaldaaGreatK3
import Derived.Test.YthinhlcfpaaldaaGreatK4
import Derived.Test.YthinhlcfpaaldaaGreatK1
import Derived.Test.YthinhlcfpaaldaaGreatWLast
import Derived.Lib.LazyBuf
/- append of a row that is read, to a row of the call's own. -/
namespace Go.Proofs.YthinhlcfpaaldaaGreat.Mem
open Go Go.RowKit
set_option linter.unusedVariables false
set_option linter.unusedSimpArgs false
namespace Knd
section
variable {α : Type} {d : Knd α} {e : Nat} {w W : World} {v : Value} {xs zs : List α} {F : List Nat} {Fs : List (List Nat)}
/-- A row's cells, one behind the other. -/
theorem Row.flat {ad : Addr} (h : d.Row W (some ad) xs.length xs) : ∀ k, k ≤ xs.length → ∃ cs : List Value, cs.length = k * d.sz ∧ (∀ j p, j < k → xs[j]? = some p → d.K W p ((cs.drop (j * d.sz)).take d.sz)) ∧ ∀ i u, cs[i]? = some u → W.cell? (ad.add i) = some u
  | 0, _ => ⟨[], by simp, fun j p hj => by omega, fun i u hu => by simp at hu⟩
  | k + 1, hk => by
    obtain ⟨cs, hl, hK, hc⟩ := Row.flat h k (by omega)
    obtain ⟨x, hx⟩ : ∃ x, xs[k]? = some x := ⟨xs[k], List.getElem?_eq_getElem (by omega)⟩
    obtain ⟨ad', c, e1, hKc, hcc⟩ := h.get k x hx
    cases e1
    have hcl := d.K_len hKc
    refine ⟨cs ++ c, by rw [List.length_append, hl, hcl, Nat.succ_mul], fun j p hj hp => ?_, fun i u hu => ?_⟩
    · by_cases hjk : j = k
      · subst hjk
        rw [hx] at hp
        cases hp
        have e2 : ((cs ++ c).drop (j * d.sz)).take d.sz = c := by
          rw [← hl, List.drop_left, ← hcl, List.take_length]
        rw [e2]
        exact hKc
      · have hle : j * d.sz + d.sz ≤ cs.length := by rw [hl, ← Nat.succ_mul]; exact Nat.mul_le_mul_right _ (by omega)
        rw [List.drop_append_of_le_length (by omega), List.take_append_of_le_length (by rw [List.length_drop]; omega)]
        exact hK j p (by omega) hp
    · rcases Nat.lt_or_ge i cs.length with hi | hi
      · rw [List.getElem?_append_left hi] at hu
        exact hc i u hu
      · rw [List.getElem?_append_right hi] at hu
        have := hcc (i - cs.length) u hu
        rwa [← hl, Nat.add_sub_cancel' hi] at this
/-- append(s, x...), x a row that is read, not empty; of a kind that owns nothing. -/
theorem wp_appRow {P : Program} {ops : Array Oper} {rest : List Oper} {o : Oper} {a : Act} {Q : Exit → Act → World → Prop} (d : Knd α) (hKO : ∀ w x cs, d.K w x cs → d.O w x cs []) (hgd : o.guard = none) (s x : Operand) (t : TypeId)
    (ho : o.op = .call { callee := .builtin .append, args := #[s, x], argTypes := #[t, t] }) (e : TypeId) (ht : P.underlying t = some (.slice e)) (z : Value) (bytes : Nat) (hinfo : (P.info? e).map (fun i => (i.zero, i.size, i.bytes)) = some (some z, d.sz, bytes)) (hz : z.cells.size = d.sz) (hsz : 0 < d.sz)
    (hs : a.eval s = v) (hown : OwnF d e W v xs Fs) (ad : Addr) (c : Nat) (hr : d.Row W (some ad) zs.length zs) (hx : a.eval x = .slice (some ad) zs.length c)
    (hd : ∀ q ∈ v.ownBlock.toList, q ∉ Fs.flatten)
    (hm : 0 < zs.length) (h63 : xs.length + zs.length ≤ maxLen) (hbytes : (xs.length + zs.length) * bytes ≤ 140737488355328)
    (h : ∀ g cap w', OwnF d e w' (.slice (some ⟨g, 0, none⟩) (xs.length + zs.length) cap) (xs ++ zs) (Fs ++ List.replicate zs.length []) → But v.ownBlock.toList W w' → (v.ownBlock = some g ∨ g = W.heap.size) → wpList P ops Q rest (a.put o.dst (.slice (some ⟨g, 0, none⟩) (xs.length + zs.length) cap)) w') : wpList P ops Q (o :: rest) a W := by
  obtain ⟨i0, hi, hzz⟩ := Option.map_eq_some_iff.1 hinfo
  simp only [Prod.mk.injEq] at hzz
  obtain ⟨hz0, hz1, hz2⟩ := hzz
  obtain ⟨inner, ho1, hrr⟩ := hown
  obtain ⟨cs', hl, hK, hnews⟩ := hr.flat zs.length (Nat.le_refl _)
  have hels : Els d W zs cs' (List.replicate zs.length []) := ⟨hl, by simp, fun j p Fj hp hF => by
    have hj := (List.getElem?_eq_some_iff.1 hp).1
    have hFj : Fj = [] := by
      obtain ⟨_, h9⟩ := List.getElem?_eq_some_iff.1 hF
      simpa using h9.symm
    subst hFj
    exact hKO _ _ _ (hK j p hj hp)⟩
  have h1 : ∀ u ∈ cs', u.oneCell' = true := by
    intro u hu
    obtain ⟨j, hj⟩ := List.mem_iff_getElem?.1 hu
    have hjl : j < cs'.length := (List.getElem?_eq_some_iff.1 hj).1
    rw [hl] at hjl
    have hq : j / d.sz < zs.length := (Nat.div_lt_iff_lt_mul hsz).2 hjl
    have hKK := hK (j / d.sz) _ hq (List.getElem?_eq_getElem hq)
    refine d.K_one hKK u (List.mem_iff_getElem?.2 ⟨j % d.sz, ?_⟩)
    rw [List.getElem?_take_of_lt (Nat.mod_lt _ hsz), List.getElem?_drop, Nat.mul_comm, Nat.div_add_mod]
    exact hj
  refine wpList_append_lies W hgd s x t ho 0 e i0 z d.sz bytes ht hi hz0 hz1 hz2 hz hsz v xs.length inner hs ho1 ad zs.length c cs' hx hl hnews h1 hm h63 hbytes (Nat.zero_le _) _ rfl ?_
  intro g cap w' hown' hgr hg hlt
  have hfar : ∀ q ∈ Fs.flatten, w'.heap[q]? = W.heap[q]? := by
    intro q hq
    obtain ⟨Fj, hFj, hgj⟩ := List.mem_flatten.1 hq
    obtain ⟨j, hj⟩ := List.mem_iff_getElem?.1 hFj
    have hl2 : j < xs.length := by rw [← hrr.2.1]; exact (List.getElem?_eq_some_iff.1 hj).1
    have hlt2 : q < W.heap.size := d.O_lt (hrr.2.2 j _ Fj (List.getElem?_eq_getElem hl2) hj) q hgj
    exact hgr.block q hlt2 (fun he => hd q (by rw [← he]; simp) hq)
  have hfar2 : ∀ q ∈ (Fs ++ List.replicate zs.length ([] : List Nat)).flatten, w'.heap[q]? = W.heap[q]? := by
    intro q hq
    have : q ∈ Fs.flatten := by simpa using hq
    exact hfar q this
  refine h g cap w' ⟨inner ++ cs', ?_, (hrr.append hels).frame hfar2⟩ (But.grown hgr) hg
  rw [List.length_append]
  exact hown'
end
end Knd
namespace Knd
/-- One record more: its cells stand in block B, its own blocks are G. -/
theorem wp_appE {α : Type} {P : Program} {ops : Array Oper} {rest : List Oper} {o : Oper} {a : Act} {Q : Exit → Act → World → Prop} {W : World} (d : Knd α) (hgd : o.guard = none) (s x : Operand) (t : TypeId)
    (ho : o.op = .call { callee := .builtin .append, args := #[s, x], argTypes := #[t, t] }) (e : TypeId) (ht : P.underlying t = some (.slice e)) (z : Value) (bytes : Nat) (hinfo : (P.info? e).map (fun i => (i.zero, i.size, i.bytes)) = some (some z, d.sz, bytes)) (hz : z.cells.size = d.sz) (hsz : 0 < d.sz)
    {v : Value} {xs : List α} {F G : List Nat} (hs : a.eval s = v) (hown : Own d e W v xs F) (B : Nat) (t' : TypeId) (fr : Nat × Nat) (c : Nat) (y : α) {cs' : List Value} (hB : W.heap[B]? = some (.cells cs'.toArray t' fr)) (hx : a.eval x = .slice (some ⟨B, 0, none⟩) 1 c) (hO : d.O W y cs' G) (hnd : (F ++ G).Nodup)
    (h63 : xs.length + 1 ≤ maxLen) (hbytes : (xs.length + 1) * bytes ≤ 140737488355328)
    (h : ∀ g cap w' F', Own d e w' (.slice (some ⟨g, 0, none⟩) (xs.length + 1) cap) (xs ++ [y]) F' → But F W w' → F'.Nodup → (∀ q ∈ F', q ∈ F ∨ q ∈ G ∨ W.heap.size ≤ q) → wpList P ops Q rest (a.put o.dst (.slice (some ⟨g, 0, none⟩) (xs.length + 1) cap)) w') : wpList P ops Q (o :: rest) a W := by
  have hFlt := hown.lt
  obtain ⟨Fs, hF, rfl⟩ := hown.fs
  have hl := d.K_len (d.K_of_O hO)
  have hGlt := d.O_lt hO
  have hnd1 := List.nodup_append.1 hnd
  have hnd2 := List.nodup_append.1 hnd1.1
  refine wp_app d (zs := [y]) (Gs := [G]) hgd s x t ho e ht z bytes hinfo hz hsz hs hF B t' fr c (cs' := cs') hB hx ?_ (fun q hq => ⟨fun hm => hnd2.2.2 q hq q hm rfl, fun hm => hnd1.2.2 q (List.mem_append_left _ hq) q (by simpa using hm) rfl⟩) (by simp) (by simpa using h63) (by simpa using hbytes) ?_
  · refine ⟨by simp [hl], rfl, fun j p Fj hp hFj => ?_⟩
    have hj : j = 0 := by
      have := (List.getElem?_eq_some_iff.1 hp).1
      simp at this
      exact this
    subst hj
    simp at hp hFj
    subst hp
    subst hFj
    rw [Nat.zero_mul, List.drop_zero, ← hl, List.take_length]
    exact hO
  · intro g cap w' h2 h3 h4
    have h5 := h2.own
    have e5 : (Fs ++ [G]).flatten = Fs.flatten ++ G := by simp
    rw [e5] at h5
    refine h g cap w' (g :: (Fs.flatten ++ G)) (by simpa [Value.ownBlock] using h5) (h3.mono (fun q hq => List.mem_append_left _ hq)) ?_ ?_
    · refine List.nodup_cons.2 ⟨fun hm => ?_, List.nodup_append.2 ⟨hnd2.2.1, hnd1.2.1, fun p hp q hq => hnd1.2.2 p (List.mem_append_right _ hp) q hq⟩⟩
      rcases h4 with h4 | h4
      · have hg : g ∈ v.ownBlock.toList := by rw [h4]; simp
        rcases List.mem_append.1 hm with hm | hm
        · exact hnd2.2.2 g hg g hm rfl
        · exact hnd1.2.2 g (List.mem_append_left _ hg) g hm rfl
      · rcases List.mem_append.1 hm with hm | hm
        · have := hFlt g (List.mem_append_right _ hm)
          omega
        · have := hGlt g hm
          omega
    · intro q hq
      rcases List.mem_cons.1 hq with rfl | hq
      · rcases h4 with h4 | h4
        · exact .inl (List.mem_append_left _ (by rw [h4]; simp))
        · exact .inr (.inr (by omega))
      · rcases List.mem_append.1 hq with hq | hq
        · exact .inl (List.mem_append_right _ hq)
        · exact .inr (.inl hq)
end Knd
/-- Two resources as one. -/
def Res.both (a b : Res) : Res := ⟨a.F ++ b.F, fun W => a.P W ∧ b.P W, fun h g hg => by
  rcases List.mem_append.1 hg with hg | hg
  · exact a.lt h.1 g hg
  · exact b.lt h.2 g hg, fun h k => ⟨a.loc (fun g hg => h g (List.mem_append_left _ hg)) k.1, b.loc (fun g hg => h g (List.mem_append_right _ hg)) k.2⟩⟩
namespace St
variable {w W W' : World} {L : List Res}
theorem pair2 {a b : Res} (h : St w (a :: b :: L) W) : St w (Res.both a b :: L) W := ⟨h.bel, fun r hr => by
  rcases List.mem_cons.1 hr with rfl | hr
  · exact ⟨h.at_ a (by simp), h.at_ b (by simp)⟩
  · exact h.at_ r (by simp [hr]), fun r hr g hg => by
  rcases List.mem_cons.1 hr with rfl | hr
  · rcases List.mem_append.1 hg with hg | hg
    · exact h.old a (by simp) g hg
    · exact h.old b (by simp) g hg
  · exact h.old r (by simp [hr]) g hg, by
  have := h.dis
  simpa [Res.both, List.append_assoc] using this⟩
theorem unpair2 {a b : Res} (h : St w (Res.both a b :: L) W) : St w (a :: b :: L) W := ⟨h.bel, fun r hr => by
  rcases List.mem_cons.1 hr with rfl | hr
  · exact (h.at_ _ (List.mem_cons_self)).1
  · rcases List.mem_cons.1 hr with rfl | hr
    · exact (h.at_ _ (List.mem_cons_self)).2
    · exact h.at_ r (by simp [hr]), fun r hr g hg => by
  rcases List.mem_cons.1 hr with rfl | hr
  · exact h.old _ (List.mem_cons_self) g (List.mem_append_left _ hg)
  · rcases List.mem_cons.1 hr with rfl | hr
    · exact h.old _ (List.mem_cons_self) g (List.mem_append_right _ hg)
    · exact h.old r (by simp [hr]) g hg, by
  have := h.dis
  simpa [Res.both, List.append_assoc] using this⟩
/-- The first two resources turned into one, in their own blocks and in new ones. -/
theorem upd2 {a b r' : Res} (h : St w (a :: b :: L) W) (hB : But a.F W W') (hr : r'.P W') (hnd : r'.F.Nodup) (hF : ∀ g ∈ r'.F, g ∈ a.F ∨ g ∈ b.F ∨ W.heap.size ≤ g) : St w (r' :: L) W' :=
  h.pair2.upd0 (hB.mono (fun g hg => List.mem_append_left _ hg)) hr hnd (fun g hg => by
    rcases hF g hg with h1 | h1 | h1
    · exact .inl (List.mem_append_left _ h1)
    · exact .inl (List.mem_append_right _ h1)
    · exact .inr h1)
theorem nodup2 {a b : Res} (h : St w (a :: b :: L) W) : (a.F ++ b.F).Nodup := (h.pair2).nodup 0 rfl
/-- One resource alone. -/
theorem only {r : Res} (h : St w L W) (i : Nat) (hi : L[i]? = some r) : St w [r] W := ⟨h.bel, fun q hq => by
  rw [List.mem_singleton.1 hq]
  exact h.get i hi, fun q hq => by
  rw [List.mem_singleton.1 hq]
  exact h.olds i hi, by
  have := h.nodup i hi
  simpa using this⟩
/-- A row that has grown by a record that owns nothing. -/
theorem appK {α : Type} {d : Knd α} {e : Nat} {v v' : Value} {xs ys : List α} {F F' : List Nat} (h : St w L W) (i : Nat) (hi : L[i]? = some (Res.own d e v xs F)) (hO : d.Own e W' v' ys F') (hB : But F W W') (hnd : F'.Nodup) (hF : ∀ q ∈ F', q ∈ F ∨ q ∈ ([] : List Nat) ∨ W.heap.size ≤ q) : St w (L.set i (Res.own d e v' ys F')) W' :=
  h.upd (r' := Res.own d e v' ys F') i hi hB hO hnd (fun g hg => by
    rcases hF g hg with h1 | h1 | h1
    · exact .inl h1
    · simp at h1
    · exact .inr h1)
end St
namespace Knd
/-- append(s, x...), x a row that is read and not empty, s a row of the call's own. -/
theorem wp_appRowE {α : Type} {P : Program} {ops : Array Oper} {rest : List Oper} {o : Oper} {a : Act} {Q : Exit → Act → World → Prop} {W : World} (d : Knd α) (hKO : ∀ w x cs, d.K w x cs → d.O w x cs []) (hgd : o.guard = none) (s x : Operand) (t : TypeId)
    (ho : o.op = .call { callee := .builtin .append, args := #[s, x], argTypes := #[t, t] }) (e : TypeId) (ht : P.underlying t = some (.slice e)) (z : Value) (bytes : Nat) (hinfo : (P.info? e).map (fun i => (i.zero, i.size, i.bytes)) = some (some z, d.sz, bytes)) (hz : z.cells.size = d.sz) (hsz : 0 < d.sz)
    {v : Value} {xs zs : List α} {F : List Nat} (hs : a.eval s = v) (hown : Own d e W v xs F) (hnd : F.Nodup) (ad : Addr) (c : Nat) (hr : d.Row W (some ad) zs.length zs) (hx : a.eval x = .slice (some ad) zs.length c)
    (hm : 0 < zs.length) (h63 : xs.length + zs.length ≤ maxLen) (hbytes : (xs.length + zs.length) * bytes ≤ 140737488355328)
    (h : ∀ g cap w' F', Own d e w' (.slice (some ⟨g, 0, none⟩) (xs.length + zs.length) cap) (xs ++ zs) F' → But F W w' → F'.Nodup → (∀ q ∈ F', q ∈ F ∨ W.heap.size ≤ q) → wpList P ops Q rest (a.put o.dst (.slice (some ⟨g, 0, none⟩) (xs.length + zs.length) cap)) w') : wpList P ops Q (o :: rest) a W := by
  have hFlt := hown.lt
  obtain ⟨Fs, hF, rfl⟩ := hown.fs
  have hnd2 := List.nodup_append.1 hnd
  refine wp_appRow d hKO hgd s x t ho e ht z bytes hinfo hz hsz hs hF ad c hr hx (fun q hq hm => hnd2.2.2 q hq q hm rfl) hm h63 hbytes ?_
  intro g cap w' h2 h3 h4
  have h5 := h2.own
  have e5 : (Fs ++ List.replicate zs.length ([] : List Nat)).flatten = Fs.flatten := by simp
  rw [e5] at h5
  refine h g cap w' (g :: Fs.flatten) (by simpa [Value.ownBlock] using h5) (h3.mono (fun q hq => List.mem_append_left _ hq)) ?_ ?_
  · refine List.nodup_cons.2 ⟨fun hm => ?_, hnd2.2.1⟩
    rcases h4 with h4 | h4
    · have hg : g ∈ v.ownBlock.toList := by rw [h4]; simp
      exact hnd2.2.2 g hg g hm rfl
    · have := hFlt g (List.mem_append_right _ hm)
      omega
  · intro q hq
    rcases List.mem_cons.1 hq with rfl | hq
    · rcases h4 with h4 | h4
      · exact .inl (List.mem_append_left _ (by rw [h4]; simp))
      · exact .inr (by omega)
    · exact .inl (List.mem_append_right _ hq)
/-- append(s, x...), x empty. -/
theorem wp_app0 {α : Type} {P : Program} {ops : Array Oper} {rest : List Oper} {o : Oper} {a : Act} {Q : Exit → Act → World → Prop} {W : World} (d : Knd α) (hgd : o.guard = none) (s x : Operand) (t : TypeId)
    (ho : o.op = .call { callee := .builtin .append, args := #[s, x], argTypes := #[t, t] }) (e : TypeId) (ht : P.underlying t = some (.slice e)) (i : TypeInfo) (hi : P.info? e = some i)
    {v : Value} {xs : List α} {F : List Nat} (hs : a.eval s = v) (hown : Own d e W v xs F) (A : Option Addr) (n c : Nat) (hn : n = 0) (hx : a.eval x = .slice A n c)
    (h : wpList P ops Q rest (a.put o.dst v) W) : wpList P ops Q (o :: rest) a W := by
  subst hn
  obtain ⟨inner, Fs, ho1, _, _⟩ := hown
  have hrun : (Builtin.append_ #[t, t] o.type #[v, .slice A 0 c]).run P W = .ok v W := by
    rcases ho1.2 with ⟨rfl, _⟩ | ⟨g, cap, cur, rfl, _, _, hnc, _⟩
    · cases A <;> simp [Builtin.append_, run_underlying ht, sizeOf, typeInfo, hi, Builtin.lenOf, Builtin.firstCells, loadCells, loadCellsFrom, Result.andThen]
    · cases A <;> simp [Builtin.append_, run_underlying ht, sizeOf, typeInfo, hi, Builtin.lenOf, Builtin.firstCells, hnc, storeCells, loadCells, loadCellsFrom, Result.andThen]
  refine wpList_plain hgd fun K hK => ?_
  unfold Oper.wp
  simp [execOp, ho, resolve, invoke, builtin, hs, hx, hrun, Result.andThen]
  exact hK _ _ h
/-- append(s, x...), x a row that is read, empty or not. -/
theorem wp_appAny {α : Type} {P : Program} {ops : Array Oper} {rest : List Oper} {o : Oper} {a : Act} {Q : Exit → Act → World → Prop} {W : World} (d : Knd α) (hKO : ∀ w x cs, d.K w x cs → d.O w x cs []) (hgd : o.guard = none) (s x : Operand) (t : TypeId)
    (ho : o.op = .call { callee := .builtin .append, args := #[s, x], argTypes := #[t, t] }) (e : TypeId) (ht : P.underlying t = some (.slice e)) (z : Value) (bytes : Nat) (hinfo : (P.info? e).map (fun i => (i.zero, i.size, i.bytes)) = some (some z, d.sz, bytes)) (hz : z.cells.size = d.sz) (hsz : 0 < d.sz)
    {v : Value} {xs zs : List α} {F : List Nat} (hs : a.eval s = v) (hown : Own d e W v xs F) (hnd : F.Nodup) (A : Option Addr) (c : Nat) (hr : d.Row W A zs.length zs) (hx : a.eval x = .slice A zs.length c)
    (h63 : xs.length + zs.length ≤ maxLen) (hbytes : (xs.length + zs.length) * bytes ≤ 140737488355328)
    (h : ∀ v' w' F', Own d e w' v' (xs ++ zs) F' → But F W w' → F'.Nodup → (∀ q ∈ F', q ∈ F ∨ W.heap.size ≤ q) → wpList P ops Q rest (a.put o.dst v') w') : wpList P ops Q (o :: rest) a W := by
  rcases Nat.eq_zero_or_pos zs.length with h0 | h0
  · obtain ⟨i0, hi, _⟩ := Option.map_eq_some_iff.1 hinfo
    have hz0 := List.eq_nil_of_length_eq_zero h0
    refine wp_app0 d hgd s x t ho e ht i0 hi hs hown A zs.length c h0 hx (h v W F ?_ (But.refl _ _) hnd (fun q hq => .inl hq))
    rw [hz0, List.append_nil]
    exact hown
  · obtain ⟨ad, rfl, _⟩ := hr.2.2 h0
    exact wp_appRowE d hKO hgd s x t ho e ht z bytes hinfo hz hsz hs hown hnd ad c hr hx h0 h63 hbytes (fun g cap w' F' h1 h2 h3 h4 => h _ w' F' h1 h2 h3 h4)
end Knd
end Go.Proofs.YthinhlcfpaaldaaGreat.Mem
namespace Go.Proofs.YthinhlcfpaaldaaGreat.Dat
open Go Go.RowKit Go.Proofs.YthinhlcfpaaldaaGreat.Mem
theorem infoValI : ∃ i, Tryz.prog.info? 65 = some i ∧ i.zero = some (.agg #[.int .i64 0, .int .i64 0, .string ⟨#[]⟩]) ∧ i.size = 3 ∧ i.bytes = 32 := by
  have h := infoValue
  obtain ⟨i, hi, hz⟩ := Option.map_eq_some_iff.1 h
  simp only [Prod.mk.injEq] at hz
  exact ⟨i, hi, hz.1, hz.2.1, hz.2.2⟩
theorem valKO (w : World) (x : DValue) (cs : List Value) (h : kValue.K w x cs) : kValue.O w x cs [] := by
  obtain rfl := kValue_K.1 h
  exact kValue_Oi.2 ⟨rfl, rfl⟩
/-- slices.Grow of the nil slice. -/
theorem growNil (n : Nat) (w : World) (hn : n ≤ 4194304) : Calls Tryz.prog 352 #[.slice none 0 0, .int .i64 n] w (NewRow kValue 65 [] w) := by
  obtain ⟨i0, hi, hz0, h1, h2⟩ := infoValI
  by_cases h0 : n = 0
  · subst h0
    refine (Any8.slices_Grow_room laysGrow none 0 0 0 w (by omega) (by omega) (by omega) (by omega)).mono ?_
    rintro e w' ⟨rfl, rfl⟩
    exact ⟨_, [], rfl, Knd.Own.nil _ _ _, by simp, by simp, Below.refl _ _⟩
  · refine (Any8.slices_Grow_grow laysGrow i0 _ hi hz0 (by rw [h1]; decide) none 0 0 n [] w (by omega) (by omega) (by rw [h2]; omega) (by omega) (by simp) (fun _ => rfl) (fun a ha => by cases ha)).mono ?_
    rintro e w' ⟨rfl, rfl⟩
    have hge := grownCap_ge w (0 + n) 0 65
    have hle := grownCap_le_maxLen w (0 + n) 0 65 (by unfold maxLen; omega)
    refine ⟨_, [w.heap.size], rfl, ?_, by simp, by simp, bl_alloc (bl_drew (Below.refl _ _)) _⟩
    refine ⟨[], [], ⟨by simp, .inr ⟨w.heap.size, _, _, rfl, Nat.zero_le _, blk_new w.drew _, Nat.zero_le _, hle, ?_, by simp⟩⟩, ⟨by simp, rfl, fun j p Fj hp => by simp at hp⟩, by simp [Value.ownBlock]⟩
    rw [Array.size_append, Array.size_append, size_zeroCells, size_zeroCells]
    show 0 + (0 + n - 0) * 3 + (grownCap w (0 + n) 0 65 - (0 + n)) * 3 = grownCap w (0 + n) 0 65 * 3
    omega
theorem row_ad {α : Type} {d : Knd α} {W : World} {A : Option Addr} {n : Nat} {xs : List α} (h : d.Row W A n xs) (h0 : 0 < n) : ∃ ad, A = some ad := by
  obtain ⟨ad, e, _⟩ := h.2.2 h0
  exact ⟨ad, e⟩
set_option maxHeartbeats 8000000 in
set_option maxRecDepth 100000 in
theorem concat2 (B c : Nat) (A1 A2 : Option Addr) (c1 c2 : Nat) (xs ys : List DValue) (w : World) (q1 : w.cell? ⟨B, 0, none⟩ = some (.slice A1 xs.length c1)) (q2 : w.cell? ⟨B, 1, none⟩ = some (.slice A2 ys.length c2))
    (h1 : kValue.Row w A1 xs.length xs) (h2 : kValue.Row w A2 ys.length ys) (m1 : xs.length ≤ 1048576) (m2 : ys.length ≤ 1048576) :
    Calls Tryz.prog 326 #[.slice (some ⟨B, 0, none⟩) 2 c] w (NewRow kValue 65 (xs ++ ys) w) := by
  go_enter Tryz.func326, Tryz.ntmps326
  go_wp2
  go_loopw [3, 11] (fun v i wr => wr = w ∧ ((i = .int .i64 0 ∧ v = .int .i64 0) ∨ (i = .int .i64 1 ∧ v = .int .i64 xs.length) ∨ (i = .int .i64 2 ∧ v = .int .i64 ((xs.length + ys.length : Nat) : Int)))) (fun _ i _ => 2 - (intOf i).toNat)
  case atStart => exact ⟨rfl, .inl ⟨rfl, rfl⟩⟩
  case round =>
    obtain ⟨rfl, hrel⟩ := hrel
    rcases hrel with ⟨rfl, rfl⟩ | ⟨rfl, rfl⟩ | ⟨rfl, rfl⟩
    · go_wp2
      go_roundw
      case rel => exact ⟨trivial, .inr (.inl ⟨rfl, by go_num⟩)⟩
      case measure => simp [intOf]
    · go_wp2
      go_roundw
      case rel => exact ⟨trivial, .inr (.inr ⟨rfl, by go_num⟩)⟩
      case measure => simp [intOf]
    · go_wp2_with fail
      refine (growNil (xs.length + ys.length) _ (by omega)).mono ?_
      intro e w1 hn
      obtain ⟨v0, F, rfl, hS⟩ := (St.start wr).newRow hn
      clear hn
      have p1 := kept hS.bel q1
      have p2 := kept hS.bel q2
      go_wp2
      go_loopw [6, 27] (fun v i wx => ∃ F, ((i = .int .i64 0 ∧ St wr [Res.own kValue 65 v [] F] wx) ∨ (i = .int .i64 1 ∧ St wr [Res.own kValue 65 v xs F] wx) ∨ (i = .int .i64 2 ∧ St wr [Res.own kValue 65 v (xs ++ ys) F] wx))) (fun _ i _ => 2 - (intOf i).toNat)
      case atStart => exact ⟨F, .inl ⟨rfl, hS⟩⟩
      case round =>
        clear hS p1 p2
        obtain ⟨F, hrel⟩ := hrel
        rcases hrel with ⟨rfl, hS⟩ | ⟨rfl, hS⟩ | ⟨rfl, hS⟩
        · have p1 := kept hS.bel q1
          have p2 := kept hS.bel q2
          rcases Nat.eq_zero_or_pos xs.length with h0 | h0
          · have HZ0 := Lib.hid (List.eq_nil_of_length_eq_zero h0)
            have H0 := Lib.hid h0
            clear h0
            obtain ⟨i0, hi0, _, _, _⟩ := infoValI
            go_wp2_with (at_builtin; refine Knd.wp_app0 kValue rfl _ _ _ rfl 65 Tryz.underlying143 i0 hi0 rfl (hS.get 0 rfl) A1 xs.length c1 H0.out rfl ?_)
            go_roundw
            case rel => exact ⟨F, .inr (.inl ⟨rfl, by rw [HZ0.out]; exact hS⟩)⟩
            case measure => simp [intOf]
          · obtain ⟨ad, rfl⟩ := row_ad h1 h0
            have hr := h1.below hS.bel
            go_wp2_with (at_builtin; refine Knd.wp_appRowE kValue valKO rfl _ _ _ rfl 65 Tryz.underlying143 (.agg #[.int .i64 0, .int .i64 0, .string (⟨#[]⟩ : ByteArray)]) 32 infoValue rfl (by decide) rfl (hS.own_ 0 rfl) (hS.nodup 0 rfl) ad c1 hr rfl (by omega) (by (try simp only [List.length_nil, Nat.zero_add]); unfold maxLen; omega) (by (try simp only [List.length_nil, Nat.zero_add]); omega) ?_; rintro gq cq wq Fq hO hB hnd hFq)
            go_roundw
            case rel => exact ⟨Fq, .inr (.inl ⟨rfl, by have h9 := hS.upd (r' := Res.own kValue 65 _ _ Fq) 0 rfl hB hO hnd hFq; simpa using h9⟩)⟩
            case measure => simp [intOf]
        · have p1 := kept hS.bel q1
          have p2 := kept hS.bel q2
          rcases Nat.eq_zero_or_pos ys.length with h0 | h0
          · have HZ0 := Lib.hid (List.eq_nil_of_length_eq_zero h0)
            have H0 := Lib.hid h0
            clear h0
            obtain ⟨i0, hi0, _, _, _⟩ := infoValI
            go_wp2_with (at_builtin; refine Knd.wp_app0 kValue rfl _ _ _ rfl 65 Tryz.underlying143 i0 hi0 rfl (hS.get 0 rfl) A2 ys.length c2 H0.out rfl ?_)
            go_roundw
            case rel => exact ⟨F, .inr (.inr ⟨rfl, by rw [HZ0.out, List.append_nil]; exact hS⟩)⟩
            case measure => simp [intOf]
          · obtain ⟨ad, rfl⟩ := row_ad h2 h0
            have hr := h2.below hS.bel
            go_wp2_with (at_builtin; refine Knd.wp_appRowE kValue valKO rfl _ _ _ rfl 65 Tryz.underlying143 (.agg #[.int .i64 0, .int .i64 0, .string (⟨#[]⟩ : ByteArray)]) 32 infoValue rfl (by decide) rfl (hS.own_ 0 rfl) (hS.nodup 0 rfl) ad c2 hr rfl (by omega) (by (try simp only [List.length_nil, Nat.zero_add]); unfold maxLen; omega) (by (try simp only [List.length_nil, Nat.zero_add]); omega) ?_; rintro gq cq wq Fq hO hB hnd hFq)
            go_roundw
            case rel => exact ⟨Fq, .inr (.inr ⟨rfl, by have h9 := hS.upd (r' := Res.own kValue 65 _ _ Fq) 0 rfl hB hO hnd hFq; simpa using h9⟩)⟩
            case measure => simp [intOf]
        · go_wp2
          go_ret
          exact hS.outRow 0 rfl
end Go.Proofs.YthinhlcfpaaldaaGreat.Dat

/- The laws of append at one operation, for regions that draw their order. Written by opagen.py. -/
namespace Go.Proofs.YthinhlcfpaaldaaGreat.Mem
open Go Go.RowKit
set_option linter.unusedVariables false
set_option linter.unusedSimpArgs false
namespace Knd
section
variable {α : Type} {d : Knd α} {e : Nat} {w w1 : World} {v : Value} {xs zs : List α} {F : List Nat} {Fs Gs : List (List Nat)} {cs cs' : List Value} {W : World}
theorem op_appRow {P : Program} {o : Oper} {a : Act} {K : Act → World → Prop} {Q : Exit → Act → World → Prop} (d : Knd α) (hKO : ∀ w x cs, d.K w x cs → d.O w x cs []) (s x : Operand) (t : TypeId)
    (ho : o.op = .call { callee := .builtin .append, args := #[s, x], argTypes := #[t, t] }) (e : TypeId) (ht : P.underlying t = some (.slice e)) (z : Value) (bytes : Nat) (hinfo : (P.info? e).map (fun i => (i.zero, i.size, i.bytes)) = some (some z, d.sz, bytes)) (hz : z.cells.size = d.sz) (hsz : 0 < d.sz)
    (hs : a.eval s = v) (hown : OwnF d e W v xs Fs) (ad : Addr) (c : Nat) (hr : d.Row W (some ad) zs.length zs) (hx : a.eval x = .slice (some ad) zs.length c)
    (hd : ∀ q ∈ v.ownBlock.toList, q ∉ Fs.flatten)
    (hm : 0 < zs.length) (h63 : xs.length + zs.length ≤ maxLen) (hbytes : (xs.length + zs.length) * bytes ≤ 140737488355328)
    (h : ∀ g cap w', OwnF d e w' (.slice (some ⟨g, 0, none⟩) (xs.length + zs.length) cap) (xs ++ zs) (Fs ++ List.replicate zs.length []) → But v.ownBlock.toList W w' → (v.ownBlock = some g ∨ g = W.heap.size) → K (a.put o.dst (.slice (some ⟨g, 0, none⟩) (xs.length + zs.length) cap)) w') : Oper.wp P o a W K Q := by
  obtain ⟨i0, hi, hzz⟩ := Option.map_eq_some_iff.1 hinfo
  simp only [Prod.mk.injEq] at hzz
  obtain ⟨hz0, hz1, hz2⟩ := hzz
  obtain ⟨inner, ho1, hrr⟩ := hown
  obtain ⟨cs', hl, hK, hnews⟩ := hr.flat zs.length (Nat.le_refl _)
  have hels : Els d W zs cs' (List.replicate zs.length []) := ⟨hl, by simp, fun j p Fj hp hF => by
    have hj := (List.getElem?_eq_some_iff.1 hp).1
    have hFj : Fj = [] := by
      obtain ⟨_, h9⟩ := List.getElem?_eq_some_iff.1 hF
      simpa using h9.symm
    subst hFj
    exact hKO _ _ _ (hK j p hj hp)⟩
  have h1 : ∀ u ∈ cs', u.oneCell' = true := by
    intro u hu
    obtain ⟨j, hj⟩ := List.mem_iff_getElem?.1 hu
    have hjl : j < cs'.length := (List.getElem?_eq_some_iff.1 hj).1
    rw [hl] at hjl
    have hq : j / d.sz < zs.length := (Nat.div_lt_iff_lt_mul hsz).2 hjl
    have hKK := hK (j / d.sz) _ hq (List.getElem?_eq_getElem hq)
    refine d.K_one hKK u (List.mem_iff_getElem?.2 ⟨j % d.sz, ?_⟩)
    rw [List.getElem?_take_of_lt (Nat.mod_lt _ hsz), List.getElem?_drop, Nat.mul_comm, Nat.div_add_mod]
    exact hj
  refine wp_append_lies W s x t ho 0 e i0 z d.sz bytes ht hi hz0 hz1 hz2 hz hsz v xs.length inner hs ho1 ad zs.length c cs' hx hl hnews h1 hm h63 hbytes (Nat.zero_le _) _ rfl ?_
  intro g cap w' hown' hgr hg hlt
  have hfar : ∀ q ∈ Fs.flatten, w'.heap[q]? = W.heap[q]? := by
    intro q hq
    obtain ⟨Fj, hFj, hgj⟩ := List.mem_flatten.1 hq
    obtain ⟨j, hj⟩ := List.mem_iff_getElem?.1 hFj
    have hl2 : j < xs.length := by rw [← hrr.2.1]; exact (List.getElem?_eq_some_iff.1 hj).1
    have hlt2 : q < W.heap.size := d.O_lt (hrr.2.2 j _ Fj (List.getElem?_eq_getElem hl2) hj) q hgj
    exact hgr.block q hlt2 (fun he => hd q (by rw [← he]; simp) hq)
  have hfar2 : ∀ q ∈ (Fs ++ List.replicate zs.length ([] : List Nat)).flatten, w'.heap[q]? = W.heap[q]? := by
    intro q hq
    have : q ∈ Fs.flatten := by simpa using hq
    exact hfar q this
  refine h g cap w' ⟨inner ++ cs', ?_, (hrr.append hels).frame hfar2⟩ (But.grown hgr) hg
  rw [List.length_append]
  exact hown'

end
theorem op_appRowE {α : Type} {P : Program} {o : Oper} {a : Act} {K : Act → World → Prop} {Q : Exit → Act → World → Prop} {W : World} (d : Knd α) (hKO : ∀ w x cs, d.K w x cs → d.O w x cs []) (s x : Operand) (t : TypeId)
    (ho : o.op = .call { callee := .builtin .append, args := #[s, x], argTypes := #[t, t] }) (e : TypeId) (ht : P.underlying t = some (.slice e)) (z : Value) (bytes : Nat) (hinfo : (P.info? e).map (fun i => (i.zero, i.size, i.bytes)) = some (some z, d.sz, bytes)) (hz : z.cells.size = d.sz) (hsz : 0 < d.sz)
    {v : Value} {xs zs : List α} {F : List Nat} (hs : a.eval s = v) (hown : Own d e W v xs F) (hnd : F.Nodup) (ad : Addr) (c : Nat) (hr : d.Row W (some ad) zs.length zs) (hx : a.eval x = .slice (some ad) zs.length c)
    (hm : 0 < zs.length) (h63 : xs.length + zs.length ≤ maxLen) (hbytes : (xs.length + zs.length) * bytes ≤ 140737488355328)
    (h : ∀ g cap w' F', Own d e w' (.slice (some ⟨g, 0, none⟩) (xs.length + zs.length) cap) (xs ++ zs) F' → But F W w' → F'.Nodup → (∀ q ∈ F', q ∈ F ∨ W.heap.size ≤ q) → K (a.put o.dst (.slice (some ⟨g, 0, none⟩) (xs.length + zs.length) cap)) w') : Oper.wp P o a W K Q := by
  have hFlt := hown.lt
  obtain ⟨Fs, hF, rfl⟩ := hown.fs
  have hnd2 := List.nodup_append.1 hnd
  refine op_appRow d hKO s x t ho e ht z bytes hinfo hz hsz hs hF ad c hr hx (fun q hq hm => hnd2.2.2 q hq q hm rfl) hm h63 hbytes ?_
  intro g cap w' h2 h3 h4
  have h5 := h2.own
  have e5 : (Fs ++ List.replicate zs.length ([] : List Nat)).flatten = Fs.flatten := by simp
  rw [e5] at h5
  refine h g cap w' (g :: Fs.flatten) (by simpa [Value.ownBlock] using h5) (h3.mono (fun q hq => List.mem_append_left _ hq)) ?_ ?_
  · refine List.nodup_cons.2 ⟨fun hm => ?_, hnd2.2.1⟩
    rcases h4 with h4 | h4
    · have hg : g ∈ v.ownBlock.toList := by rw [h4]; simp
      exact hnd2.2.2 g hg g hm rfl
    · have := hFlt g (List.mem_append_right _ hm)
      omega
  · intro q hq
    rcases List.mem_cons.1 hq with rfl | hq
    · rcases h4 with h4 | h4
      · exact .inl (List.mem_append_left _ (by rw [h4]; simp))
      · exact .inr (by omega)
    · exact .inl (List.mem_append_right _ hq)

theorem op_app0 {α : Type} {P : Program} {o : Oper} {a : Act} {K : Act → World → Prop} {Q : Exit → Act → World → Prop} {W : World} (d : Knd α) (s x : Operand) (t : TypeId)
    (ho : o.op = .call { callee := .builtin .append, args := #[s, x], argTypes := #[t, t] }) (e : TypeId) (ht : P.underlying t = some (.slice e)) (i : TypeInfo) (hi : P.info? e = some i)
    {v : Value} {xs : List α} {F : List Nat} (hs : a.eval s = v) (hown : Own d e W v xs F) (A : Option Addr) (n c : Nat) (hn : n = 0) (hx : a.eval x = .slice A n c)
    (h : K (a.put o.dst v) W) : Oper.wp P o a W K Q := by
  subst hn
  obtain ⟨inner, Fs, ho1, _, _⟩ := hown
  have hrun : (Builtin.append_ #[t, t] o.type #[v, .slice A 0 c]).run P W = .ok v W := by
    rcases ho1.2 with ⟨rfl, _⟩ | ⟨g, cap, cur, rfl, _, _, hnc, _⟩
    · cases A <;> simp [Builtin.append_, run_underlying ht, sizeOf, typeInfo, hi, Builtin.lenOf, Builtin.firstCells, loadCells, loadCellsFrom, Result.andThen]
    · cases A <;> simp [Builtin.append_, run_underlying ht, sizeOf, typeInfo, hi, Builtin.lenOf, Builtin.firstCells, hnc, storeCells, loadCells, loadCellsFrom, Result.andThen]
  unfold Oper.wp
  simp [execOp, ho, resolve, invoke, builtin, hs, hx, hrun, Result.andThen]
  exact h

theorem op_appAny {α : Type} {P : Program} {o : Oper} {a : Act} {K : Act → World → Prop} {Q : Exit → Act → World → Prop} {W : World} (d : Knd α) (hKO : ∀ w x cs, d.K w x cs → d.O w x cs []) (s x : Operand) (t : TypeId)
    (ho : o.op = .call { callee := .builtin .append, args := #[s, x], argTypes := #[t, t] }) (e : TypeId) (ht : P.underlying t = some (.slice e)) (z : Value) (bytes : Nat) (hinfo : (P.info? e).map (fun i => (i.zero, i.size, i.bytes)) = some (some z, d.sz, bytes)) (hz : z.cells.size = d.sz) (hsz : 0 < d.sz)
    {v : Value} {xs zs : List α} {F : List Nat} (hs : a.eval s = v) (hown : Own d e W v xs F) (hnd : F.Nodup) (A : Option Addr) (c : Nat) (hr : d.Row W A zs.length zs) (hx : a.eval x = .slice A zs.length c)
    (h63 : xs.length + zs.length ≤ maxLen) (hbytes : (xs.length + zs.length) * bytes ≤ 140737488355328)
    (h : ∀ v' w' F', Own d e w' v' (xs ++ zs) F' → But F W w' → F'.Nodup → (∀ q ∈ F', q ∈ F ∨ W.heap.size ≤ q) → K (a.put o.dst v') w') : Oper.wp P o a W K Q := by
  rcases Nat.eq_zero_or_pos zs.length with h0 | h0
  · obtain ⟨i0, hi, _⟩ := Option.map_eq_some_iff.1 hinfo
    have hz0 := List.eq_nil_of_length_eq_zero h0
    refine op_app0 d s x t ho e ht i0 hi hs hown A zs.length c h0 hx (h v W F ?_ (But.refl _ _) hnd (fun q hq => .inl hq))
    rw [hz0, List.append_nil]
    exact hown
  · obtain ⟨ad, rfl, _⟩ := hr.2.2 h0
    exact op_appRowE d hKO s x t ho e ht z bytes hinfo hz hsz hs hown hnd ad c hr hx h0 h63 hbytes (fun g cap w' F' h1 h2 h3 h4 => h _ w' F' h1 h2 h3 h4)

end Knd
end Go.Proofs.YthinhlcfpaaldaaGreat.Mem

/- Arguments of function 0: in the program. -/
namespace Go.Proofs.YthinhlcfpaaldaaGreat.Dat
open Go Go.RowKit Go.Proofs.YthinhlcfpaaldaaGreat.Mem
set_option linter.unusedVariables false
set_option linter.unusedSimpArgs false
end Go.Proofs.YthinhlcfpaaldaaGreat.Dat

/- Start, in the program. -/
namespace Go.Proofs.YthinhlcfpaaldaaGreat.Mem
open Go Go.RowKit
set_option linter.unusedVariables false
set_option linter.unusedSimpArgs false
namespace St
variable {w W W' : World} {L : List Res}
/-- One record, laid as a row. -/
theorem one {α : Type} {d : Knd α} {x : α} {cs : Array Value} {F : List Nat} (e : Nat) (h : St w (Res.agg d x cs.toList F :: L) W) : St w (Res.own d e (.slice (some ⟨W.heap.size, 0, none⟩) 1 1) [x] (W.heap.size :: F) :: L) (W.alloc (.cells cs e (0, 0))) := by
  have hM := (h.made (.cells cs e (0, 0))).pair2
  have hO : d.O (W.alloc (.cells cs e (0, 0))) x cs.toList F := (hM.get 0 rfl).2
  have hl := d.K_len (d.K_of_O hO)
  refine hM.asF 0 rfl (r' := Res.own d e (.slice (some ⟨W.heap.size, 0, none⟩) 1 1) [x] (W.heap.size :: F)) ?_ rfl
  refine ⟨cs.toList, [F], ⟨by simpa using hl, .inr ⟨W.heap.size, 1, cs, rfl, Nat.zero_le _, blk_new W _, Nat.le_refl _, by unfold maxLen; omega, by simpa using hl, ?_⟩⟩, ⟨by simpa using hl, rfl, fun j p Fj hp hF => ?_⟩, by simp [Value.ownBlock]⟩
  · rw [List.length_singleton, Nat.one_mul, ← hl, List.take_length]
  · have hj : j = 0 := by
      have := (List.getElem?_eq_some_iff.1 hp).1
      simp at this
      exact this
    subst hj
    simp at hp hF
    subst hp
    subst hF
    rw [Nat.zero_mul, List.drop_zero, ← hl, List.take_length]
    exact hO
end St
end Go.Proofs.YthinhlcfpaaldaaGreat.Mem
namespace Go.Proofs.YthinhlcfpaaldaaGreat.Dat
open Go Go.RowKit Go.Proofs.YthinhlcfpaaldaaGreat.Mem
set_option linter.unusedVariables false
set_option linter.unusedSimpArgs false
/-! ### What Start answers -/
end Go.Proofs.YthinhlcfpaaldaaGreat.Dat

/- Regions that draw their order and whose last store writes what their own loads read, walked by hand: as XReg, over WLast. -/
namespace Go.Proofs.YthinhlcfpaaldaaGreat.Mem
open Go Go.RowKit Go.Proofs.YthinhlcfpaaldaaGreatW.PrintLast
set_option linter.unusedVariables false
set_option linter.unusedSimpArgs false
section
variable {P : Program} {L : List Oper} {Q : Exit → Act → World → Prop} {md : Region.Mode} {S : World → Prop} {ds : List Nat} {fuel : Nat} {listed : Array Bool} {a : Act} {w : World}
end
end Go.Proofs.YthinhlcfpaaldaaGreat.Mem

/- slices.Clone; copies of modules, in the program and in the reference. -/
namespace Go.Proofs.YthinhlcfpaaldaaGreat.Mem
open Go Go.RowKit
set_option linter.unusedVariables false
set_option linter.unusedSimpArgs false
/-- An empty row, made. -/
theorem St.empty {w W : World} {L : List Res} {α : Type} (d : Knd α) (e : Nat) (h : St w L W) (g : Nat) (hg : W.heap.size = g) : St w (Res.own d e (.slice (some ⟨g, 0, none⟩) 0 0) [] [g] :: L) (W.alloc (.cells #[] e (0, 0))) := by
  subst hg
  refine h.new (r := Res.own d e (.slice (some ⟨W.heap.size, 0, none⟩) 0 0) [] [W.heap.size]) ((Below.refl _ _).alloc (Nat.le_refl _) _) ?_ (by simp [Res.own]) (by simp [Res.own])
  exact ⟨[], [], ⟨by simp, .inr ⟨W.heap.size, 0, #[], rfl, Nat.zero_le _, blk_new W _, Nat.le_refl _, by unfold maxLen; omega, by simp, by simp⟩⟩, ⟨by simp, rfl, fun j p Fj hp => by simp at hp⟩, by simp [Value.ownBlock]⟩
end Go.Proofs.YthinhlcfpaaldaaGreat.Mem
namespace Go.Proofs.YthinhlcfpaaldaaGreat.Dat
open Go Go.RowKit Go.Proofs.YthinhlcfpaaldaaGreat.Mem
set_option linter.unusedVariables false
set_option linter.unusedSimpArgs false
theorem take_snoc {α : Type} {l : List α} {k : Nat} {x : α} (h : l[k]? = some x) : l.take (k + 1) = l.take k ++ [x] := by
  rw [List.take_add_one, h]
  rfl
end Go.Proofs.YthinhlcfpaaldaaGreat.Dat
