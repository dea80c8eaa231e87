/- A thing behind a pointer that a call turns: old memory but the thing's own as it was; local boxes beside it. -/
import Derived.Test.YthinhlcfpaaldaaGreatM1
namespace Go.Proofs.YthinhlcfpaaldaaGreat.Mem
open Go Go.RowKit
set_option linter.unusedVariables false
set_option linter.unusedSimpArgs false
/-- From W on: r became r', the resources of L are new. -/
structure Tn (w0 W : World) (r r' : Res) (L : List Res) (W' : World) : Prop where
  st : St w0 (r' :: L) W'
  bt : But r.F W W'
  sub : ∀ q ∈ r'.F, q ∈ r.F ∨ W.heap.size ≤ q
  new : ∀ q ∈ L, ∀ g ∈ q.F, W.heap.size ≤ g
namespace Tn
variable {w0 W W' W'' : World} {r r' r'' : Res} {L : List Res}
theorem start (h : St w0 [r] W) : Tn w0 W r r [] W := ⟨h, But.refl _ _, fun q hq => .inl hq, by simp⟩
theorem of (h : St w0 L W) (i : Nat) (hi : L[i]? = some r) : Tn w0 W r r [] W := start (h.only i hi)
theorem step (h : Tn w0 W r r' L W') (hb : Below W'.heap.size W' W'') : Tn w0 W r r' L W'' := ⟨h.st.step hb, h.bt.trans (But.of_below hb), h.sub, h.new⟩
theorem drew (h : Tn w0 W r r' L W') : Tn w0 W r r' L W'.drew := h.step ((Below.refl _ _).drew)
theorem al (h : Tn w0 W r r' L W') (o : Obj) : Tn w0 W r r' L (W'.alloc o) := h.step ((Below.refl _ _).alloc (Nat.le_refl _) o)
theorem made (h : Tn w0 W r r' L W') (o : Obj) : Tn w0 W r r' (Res.box W'.heap.size o :: L) (W'.alloc o) := ⟨(h.st.made o).perm (List.Perm.swap _ _ _), h.bt.alloc o, h.sub, fun q hq g hg => by
  rcases List.mem_cons.1 hq with rfl | hq
  · have : g = W'.heap.size := by simpa [Res.box] using hg
    have := h.bt.size
    omega
  · exact h.new q hq g hg⟩
theorem madeAt (h : Tn w0 W r r' L W') (o : Obj) (g : Nat) (hg : W'.heap.size = g) : Tn w0 W r r' (Res.box g o :: L) (W'.alloc o) := hg ▸ h.made o
/-- A call that turns r' on. -/
theorem turn (h : Tn w0 W r r' L W') (k : Tn w0 W' r' r'' [] W'') : Tn w0 W r r'' L W'' := ⟨h.st.upd0 k.bt (k.st.get 0 rfl) (k.st.nodup 0 rfl) k.sub, h.bt.then k.bt h.sub, fun q hq => by
  rcases k.sub q hq with h1 | h1
  · exact h.sub q h1
  · have := h.bt.size
    exact .inr (by omega), h.new⟩
/-- A local resource turned. -/
theorem upd {a b : Res} (h : Tn w0 W r r' L W') (i : Nat) (hi : L[i]? = some a) (hB : But a.F W' W'') (hr : b.P W'') (hnd : b.F.Nodup) (hF : ∀ g ∈ b.F, g ∈ a.F ∨ W'.heap.size ≤ g) : Tn w0 W r r' (L.set i b) W'' := by
  have ha := h.new a (List.mem_of_getElem? hi)
  refine ⟨h.st.upd (i + 1) (by simpa using hi) hB hr hnd hF, ?_, h.sub, fun q hq g hg => ?_⟩
  · have h1 := h.bt
    exact ⟨hB.os.trans h1.os, hB.tape.trans h1.tape, hB.output.trans h1.output, Nat.le_trans h1.size hB.size, fun k hk hn => (hB.block k (Nat.lt_of_lt_of_le hk h1.size) (fun hm => by
      have := ha k hm
      omega)).trans (h1.block k hk hn)⟩
  · rcases List.mem_or_eq_of_mem_set hq with hq | rfl
    · exact h.new q hq g hg
    · rcases hF g hg with h1 | h1
      · exact ha g h1
      · have := h.bt.size
        omega
theorem set (h : Tn w0 W r r' L W') (i : Nat) {g : Nat} {cs : Array Value} {t : TypeId} (hi : L[i]? = some (Res.box g (.cells cs t (0, 0)))) (j : Nat) (v : Value) : Tn w0 W r r' (L.set i (Res.box g (.cells (cs.setIfInBounds j v) t (0, 0)))) (W'.setCell ⟨g, j, none⟩ v) :=
  h.upd i hi ((But.refl _ _).set (by simp [Res.box]) j v) (blk_set (h.st.get (i + 1) (by simpa using hi)) j v) (by simp [Res.box]) (fun q hq => .inl hq)
theorem drop {q : Res} (h : Tn w0 W r r' (q :: L) W') : Tn w0 W r r' L W' := ⟨(h.st.perm (List.Perm.swap _ _ _)).drop, h.bt, h.sub, fun p hp => h.new p (List.mem_cons_of_mem _ hp)⟩
theorem done (h : Tn w0 W r r' L W') : Tn w0 W r r' [] W' := ⟨h.st.only 0 rfl, h.bt, h.sub, by simp⟩
/-- r' turned at once, in its own blocks and in new ones. -/
theorem self (h : Tn w0 W r r' L W') (hB : But r'.F W' W'') (hr : r''.P W'') (hnd : r''.F.Nodup) (hF : ∀ g ∈ r''.F, g ∈ r'.F ∨ W'.heap.size ≤ g) : Tn w0 W r r'' L W'' := ⟨h.st.upd0 hB hr hnd hF, h.bt.then hB h.sub, fun q hq => by
  rcases hF q hq with h1 | h1
  · exact h.sub q h1
  · have := h.bt.size
    exact .inr (by omega), h.new⟩
end Tn
/-- Into the caller's resources. -/
theorem St.turn {w0 W W' : World} {r r' : Res} {L : List Res} (h : St w0 L W) (i : Nat) (hi : L[i]? = some r) (k : Tn w0 W r r' [] W') : St w0 (L.set i r') W' := h.upd i hi k.bt (k.st.get 0 rfl) (k.st.nodup 0 rfl) k.sub
/-- A row of numbers in a record's only cell, behind a pointer. -/
def Res.wr (t : TypeId) (g : Nat) (e : TypeId) (v : Value) (xs : List Int) (F : List Nat) : Res := Res.both (Res.box g (.cells #[v] t (0, 0))) (Res.own (Knd.int .i64) e v xs F)
/-- What a call answers that writes. -/
def Wrote (w0 W : World) (t : TypeId) (g : Nat) (e : TypeId) (v : Value) (xs : List Int) (F : List Nat) (ys : List Int) (en : Ending) (W' : World) : Prop := en = .returned (.tuple #[]) ∧ ∃ v' F', Tn w0 W (Res.wr t g e v xs F) (Res.wr t g e v' ys F') [] W'
namespace Tn
variable {w0 W W' : World} {r : Res} {L : List Res} {t : TypeId} {g : Nat} {e : TypeId} {v : Value} {xs : List Int} {F : List Nat}
theorem wcell (h : Tn w0 W r (Res.wr t g e v xs F) L W') : W'.cell? ⟨g, 0, none⟩ = some v := by
  have h1 := (h.st.get 0 rfl).1
  rw [blk_cell h1]
  rfl
theorem wfree (h : Tn w0 W r (Res.wr t g e v xs F) L W') : W'.frozen? ⟨g, 0, none⟩ = false := blk_frozen (h.st.get 0 rfl).1 0
theorem wown (h : Tn w0 W r (Res.wr t g e v xs F) L W') : (Knd.int .i64).Own e W' v xs F := (h.st.get 0 rfl).2
theorem wkeep (h : Tn w0 W r (Res.wr t g e v xs F) L W') {W'' : World} (hB : But F W' W'') : W''.cell? ⟨g, 0, none⟩ = some v ∧ W''.frozen? ⟨g, 0, none⟩ = false := by
  have hbox : W'.heap[g]? = some (.cells #[v] t (0, 0)) := (h.st.get 0 rfl).1
  have hnd0 : (g :: F).Nodup := h.st.nodup 0 rfl
  rw [List.nodup_cons] at hnd0
  have hbox2 : W''.heap[g]? = some (.cells #[v] t (0, 0)) := (hB.block g (blk_lt hbox) hnd0.1).trans hbox
  exact ⟨by rw [blk_cell hbox2]; rfl, blk_frozen hbox2 0⟩
/-- The row has grown, the cell is to be written. -/
theorem wput (h : Tn w0 W r (Res.wr t g e v xs F) L W') {v' : Value} {ys : List Int} {F' : List Nat} {W'' : World} (hO : (Knd.int .i64).Own e W'' v' ys F') (hB : But F W' W'') (hnd : F'.Nodup) (hF : ∀ q ∈ F', q ∈ F ∨ W'.heap.size ≤ q) : Tn w0 W r (Res.wr t g e v' ys F') L (W''.setCell ⟨g, 0, none⟩ v') := by
  have h0 := h.st.get 0 rfl
  have hbox : W'.heap[g]? = some (.cells #[v] t (0, 0)) := h0.1
  have hnd0 : (g :: F).Nodup := h.st.nodup 0 rfl
  rw [List.nodup_cons] at hnd0
  have hgl := blk_lt hbox
  have hg : g ∉ F' := fun hm => by
    rcases hF g hm with h1 | h1
    · exact hnd0.1 h1
    · omega
  have hbox2 : W''.heap[g]? = some (.cells #[v] t (0, 0)) := (hB.block g hgl hnd0.1).trans hbox
  refine h.self (r'' := Res.wr t g e v' ys F') ?_ ⟨?_, ?_⟩ (List.nodup_cons.2 ⟨hg, hnd⟩) (fun q hq => ?_)
  · exact (hB.mono (fun q hq => List.mem_append_right _ hq)).set (List.mem_append_left _ (by simp [Res.box])) 0 v'
  · exact blk_set hbox2 0 v'
  · exact hO.frame (fun q hq => Below.heap_setCell W'' ⟨g, 0, none⟩ v' q (fun e => hg (by have e2 : q = g := e; rw [← e2]; exact hq)))
  · have hq2 : q ∈ g :: F' := hq
    rcases List.mem_cons.1 hq2 with rfl | hq2
    · exact .inl (List.mem_append_left _ (by simp [Res.box]))
    · rcases hF q hq2 with h1 | h1
      · exact .inl (List.mem_append_right _ h1)
      · exact .inr h1
end Tn
theorem ints_els (W : World) (zs : List Int) : (Knd.int .i64).Els W zs (zs.map (Value.int .i64)) (List.replicate zs.length []) := by
  refine ⟨by show _ = _ * 1; simp, by simp, fun j p Fj hp hF => ?_⟩
  obtain ⟨hj, e2⟩ := List.getElem?_eq_some_iff.1 hp
  have e1 : Fj = [] := by
    obtain ⟨_, h⟩ := List.getElem?_eq_some_iff.1 hF
    simpa using h.symm
  subst e1
  refine ⟨?_, rfl⟩
  show ((zs.map (Value.int .i64)).drop (j * 1)).take 1 = [Value.int .i64 p]
  rw [Nat.mul_one, List.drop_eq_getElem_cons (by simpa using hj)]
  simp [e2]
/-- append(s, numbers...), the numbers in a block that is known whole. -/
theorem Knd.wp_appN {P : Program} {ops : Array Oper} {rest : List Oper} {o : Oper} {a : Act} {Q : Exit → Act → World → Prop} {W : World} (hgd : o.guard = none) (s x : Operand) (t : TypeId)
    (ho : o.op = .call { callee := .builtin .append, args := #[s, x], argTypes := #[t, t] }) (e : TypeId) (ht : P.underlying t = some (.slice e)) (hinfo : (P.info? e).map (fun i => (i.zero, i.size, i.bytes)) = some (some (.int .i64 0), 1, 8))
    {v : Value} {xs : List Int} {F : List Nat} (hs : a.eval s = v) (hown : (Knd.int .i64).Own e W v xs F) (zs : List Int) (B : Nat) (t' : TypeId) (fr : Nat × Nat) (c : Nat) (hB : W.heap[B]? = some (.cells (zs.map (Value.int .i64)).toArray t' fr)) (hx : a.eval x = .slice (some ⟨B, 0, none⟩) zs.length c)
    (hz : 0 < zs.length) (h63 : xs.length + zs.length ≤ 1099511627776)
    (h : ∀ g cap w', (Knd.int .i64).Own e w' (.slice (some ⟨g, 0, none⟩) (xs.length + zs.length) cap) (xs ++ zs) [g] → But F W w' → (g ∈ F ∨ W.heap.size ≤ g) → wpList P ops Q rest (a.put o.dst (.slice (some ⟨g, 0, none⟩) (xs.length + zs.length) cap)) w') : wpList P ops Q (o :: rest) a W := by
  obtain ⟨Fs, hF, rfl⟩ := hown.fs
  have hn := Knd.flat_nil hF
  refine Knd.wp_app (Knd.int .i64) (zs := zs) (Gs := List.replicate zs.length []) hgd s x t ho e ht (.int .i64 0) 8 hinfo rfl (show 0 < 1 from Nat.one_pos) hs hF B t' fr c (cs' := zs.map (Value.int .i64)) hB hx (ints_els W zs) (fun q _ => by rw [hn]; simp) hz (by unfold maxLen; omega) (by omega) ?_
  intro g cap w' h2 h3 h4
  have h5 := h2.own
  have e5 : (Fs ++ List.replicate zs.length ([] : List Nat)).flatten = [] := by
    rw [List.flatten_append, hn]
    simp
  rw [e5] at h5
  refine h g cap w' (by simpa [Value.ownBlock] using h5) (h3.mono (fun q hq => List.mem_append_left _ hq)) ?_
  rcases h4 with h4 | h4
  · exact .inl (List.mem_append_left _ (by rw [h4]; simp))
  · exact .inr (by omega)
end Go.Proofs.YthinhlcfpaaldaaGreat.Mem
