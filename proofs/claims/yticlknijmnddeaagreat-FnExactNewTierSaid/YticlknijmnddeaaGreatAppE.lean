/- append of one record to a row of the call's own; what it owns comes along. -/
import Derived.Test.YticlknijmnddeaaGreatK2
namespace Go.Proofs.YticlknijmnddeaaGreat.Mem
open Go Go.RowKit
set_option linter.unusedVariables false
set_option linter.unusedSimpArgs false
namespace Knd
/-- One record more: its cells stand in block B, its own blocks are G. -/
theorem wp_appE {α : Type} {P : Program} {ops : Array Oper} {rest : List Oper} {o : Oper} {a : Act} {Q : Exit → Act → World → Prop} {W : World} (d : Knd α) (hgd : o.guard = none) (s x : Operand) (t : TypeId)
    (ho : o.op = .call { callee := .builtin .append, args := #[s, x], argTypes := #[t, t] }) (e : TypeId) (ht : P.underlying t = some (.slice e)) (z : Value) (bytes : Nat) (hinfo : (P.info? e).map (fun i => (i.zero, i.size, i.bytes)) = some (some z, d.sz, bytes)) (hz : z.cells.size = d.sz) (hsz : 0 < d.sz)
    {v : Value} {xs : List α} {F G : List Nat} (hs : a.eval s = v) (hown : Own d e W v xs F) (B : Nat) (t' : TypeId) (fr : Nat × Nat) (c : Nat) (y : α) {cs' : List Value} (hB : W.heap[B]? = some (.cells cs'.toArray t' fr)) (hx : a.eval x = .slice (some ⟨B, 0, none⟩) 1 c) (hO : d.O W y cs' G) (hnd : (F ++ G).Nodup)
    (h63 : xs.length + 1 ≤ maxLen) (hbytes : (xs.length + 1) * bytes ≤ 140737488355328)
    (h : ∀ g cap w' F', Own d e w' (.slice (some ⟨g, 0, none⟩) (xs.length + 1) cap) (xs ++ [y]) F' → But F W w' → F'.Nodup → (∀ q ∈ F', q ∈ F ∨ q ∈ G ∨ W.heap.size ≤ q) → wpList P ops Q rest (a.put o.dst (.slice (some ⟨g, 0, none⟩) (xs.length + 1) cap)) w') : wpList P ops Q (o :: rest) a W := by
  have hFlt := hown.lt
  obtain ⟨Fs, hF, rfl⟩ := hown.fs
  have hl := d.K_len (d.K_of_O hO)
  have hGlt := d.O_lt hO
  have hnd1 := List.nodup_append.1 hnd
  have hnd2 := List.nodup_append.1 hnd1.1
  refine wp_app d (zs := [y]) (Gs := [G]) hgd s x t ho e ht z bytes hinfo hz hsz hs hF B t' fr c (cs' := cs') hB hx ?_ (fun q hq => ⟨fun hm => hnd2.2.2 q hq q hm rfl, fun hm => hnd1.2.2 q (List.mem_append_left _ hq) q (by simpa using hm) rfl⟩) (by simp) (by simpa using h63) (by simpa using hbytes) ?_
  · refine ⟨by simp [hl], rfl, fun j p Fj hp hFj => ?_⟩
    have hj : j = 0 := by
      have := (List.getElem?_eq_some_iff.1 hp).1
      simp at this
      exact this
    subst hj
    simp at hp hFj
    subst hp
    subst hFj
    rw [Nat.zero_mul, List.drop_zero, ← hl, List.take_length]
    exact hO
  · intro g cap w' h2 h3 h4
    have h5 := h2.own
    have e5 : (Fs ++ [G]).flatten = Fs.flatten ++ G := by simp
    rw [e5] at h5
    refine h g cap w' (g :: (Fs.flatten ++ G)) (by simpa [Value.ownBlock] using h5) (h3.mono (fun q hq => List.mem_append_left _ hq)) ?_ ?_
    · refine List.nodup_cons.2 ⟨fun hm => ?_, List.nodup_append.2 ⟨hnd2.2.1, hnd1.2.1, fun p hp q hq => hnd1.2.2 p (List.mem_append_right _ hp) q hq⟩⟩
      rcases h4 with h4 | h4
      · have hg : g ∈ v.ownBlock.toList := by rw [h4]; simp
        rcases List.mem_append.1 hm with hm | hm
        · exact hnd2.2.2 g hg g hm rfl
        · exact hnd1.2.2 g (List.mem_append_left _ hg) g hm rfl
      · rcases List.mem_append.1 hm with hm | hm
        · have := hFlt g (List.mem_append_right _ hm)
          omega
        · have := hGlt g hm
          omega
    · intro q hq
      rcases List.mem_cons.1 hq with rfl | hq
      · rcases h4 with h4 | h4
        · exact .inl (List.mem_append_left _ (by rw [h4]; simp))
        · exact .inr (.inr (by omega))
      · rcases List.mem_append.1 hq with hq | hq
        · exact .inl (List.mem_append_right _ hq)
        · exact .inr (.inl hq)
end Knd
/-- Two resources as one. -/
def Res.both (a b : Res) : Res := ⟨a.F ++ b.F, fun W => a.P W ∧ b.P W, fun h g hg => by
  rcases List.mem_append.1 hg with hg | hg
  · exact a.lt h.1 g hg
  · exact b.lt h.2 g hg, fun h k => ⟨a.loc (fun g hg => h g (List.mem_append_left _ hg)) k.1, b.loc (fun g hg => h g (List.mem_append_right _ hg)) k.2⟩⟩
namespace St
variable {w W W' : World} {L : List Res}
theorem pair2 {a b : Res} (h : St w (a :: b :: L) W) : St w (Res.both a b :: L) W := ⟨h.bel, fun r hr => by
  rcases List.mem_cons.1 hr with rfl | hr
  · exact ⟨h.at_ a (by simp), h.at_ b (by simp)⟩
  · exact h.at_ r (by simp [hr]), fun r hr g hg => by
  rcases List.mem_cons.1 hr with rfl | hr
  · rcases List.mem_append.1 hg with hg | hg
    · exact h.old a (by simp) g hg
    · exact h.old b (by simp) g hg
  · exact h.old r (by simp [hr]) g hg, by
  have := h.dis
  simpa [Res.both, List.append_assoc] using this⟩
theorem unpair2 {a b : Res} (h : St w (Res.both a b :: L) W) : St w (a :: b :: L) W := ⟨h.bel, fun r hr => by
  rcases List.mem_cons.1 hr with rfl | hr
  · exact (h.at_ _ (List.mem_cons_self)).1
  · rcases List.mem_cons.1 hr with rfl | hr
    · exact (h.at_ _ (List.mem_cons_self)).2
    · exact h.at_ r (by simp [hr]), fun r hr g hg => by
  rcases List.mem_cons.1 hr with rfl | hr
  · exact h.old _ (List.mem_cons_self) g (List.mem_append_left _ hg)
  · rcases List.mem_cons.1 hr with rfl | hr
    · exact h.old _ (List.mem_cons_self) g (List.mem_append_right _ hg)
    · exact h.old r (by simp [hr]) g hg, by
  have := h.dis
  simpa [Res.both, List.append_assoc] using this⟩
/-- The first two resources turned into one, in their own blocks and in new ones. -/
theorem upd2 {a b r' : Res} (h : St w (a :: b :: L) W) (hB : But a.F W W') (hr : r'.P W') (hnd : r'.F.Nodup) (hF : ∀ g ∈ r'.F, g ∈ a.F ∨ g ∈ b.F ∨ W.heap.size ≤ g) : St w (r' :: L) W' :=
  h.pair2.upd0 (hB.mono (fun g hg => List.mem_append_left _ hg)) hr hnd (fun g hg => by
    rcases hF g hg with h1 | h1 | h1
    · exact .inl (List.mem_append_left _ h1)
    · exact .inl (List.mem_append_right _ h1)
    · exact .inr h1)
theorem nodup2 {a b : Res} (h : St w (a :: b :: L) W) : (a.F ++ b.F).Nodup := (h.pair2).nodup 0 rfl
/-- One resource alone. -/
theorem only {r : Res} (h : St w L W) (i : Nat) (hi : L[i]? = some r) : St w [r] W := ⟨h.bel, fun q hq => by
  rw [List.mem_singleton.1 hq]
  exact h.get i hi, fun q hq => by
  rw [List.mem_singleton.1 hq]
  exact h.olds i hi, by
  have := h.nodup i hi
  simpa using this⟩
/-- A row that has grown by a record that owns nothing. -/
theorem appK {α : Type} {d : Knd α} {e : Nat} {v v' : Value} {xs ys : List α} {F F' : List Nat} (h : St w L W) (i : Nat) (hi : L[i]? = some (Res.own d e v xs F)) (hO : d.Own e W' v' ys F') (hB : But F W W') (hnd : F'.Nodup) (hF : ∀ q ∈ F', q ∈ F ∨ q ∈ ([] : List Nat) ∨ W.heap.size ≤ q) : St w (L.set i (Res.own d e v' ys F')) W' :=
  h.upd (r' := Res.own d e v' ys F') i hi hB hO hnd (fun g hg => by
    rcases hF g hg with h1 | h1 | h1
    · exact .inl h1
    · simp at h1
    · exact .inr h1)
end St
end Go.Proofs.YticlknijmnddeaaGreat.Mem
