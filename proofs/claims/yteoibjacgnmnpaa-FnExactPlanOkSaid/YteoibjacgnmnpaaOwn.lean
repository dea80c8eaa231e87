/- Rows of the call's own: made, written element by element, with the blocks that each element owns. -/
import Derived.Test.YteoibjacgnmnpaaMem
import Derived.Tactics
namespace Go.Proofs.Yteoibjacgnmnpaa.Mem
open Go Go.RowKit
set_option linter.unusedVariables false
set_option linter.unusedSimpArgs false

/-- Values stored one behind the other. -/
def setCells (g : Nat) : World → Nat → List Value → World
  | w, _, [] => w
  | w, o, u :: us => setCells g (w.setCell ⟨g, o, none⟩ u) (o + 1) us
def setL {α : Type} : List α → Nat → List α → List α
  | l, _, [] => l
  | l, o, u :: us => setL (l.set o u) (o + 1) us
theorem setL_length {α : Type} : ∀ (us : List α) (l : List α) (o : Nat), (setL l o us).length = l.length
  | [], _, _ => rfl
  | u :: us, l, o => by rw [setL, setL_length us]; simp
theorem setL_get {α : Type} : ∀ (us : List α) (l : List α) (o j : Nat), o + us.length ≤ l.length → (setL l o us)[j]? = if o ≤ j ∧ j < o + us.length then us[j - o]? else l[j]?
  | [], l, o, j, h => by
    rw [setL, if_neg]
    simp
  | u :: us, l, o, j, h => by
    simp only [List.length_cons] at h
    rw [setL, setL_get us _ (o + 1) j (by simp; omega)]
    by_cases h1 : j = o
    · subst h1
      rw [if_neg (by omega), if_pos (by simp)]
      rw [List.getElem?_set_self (by omega)]
      simp
    · by_cases h2 : o + 1 ≤ j ∧ j < o + 1 + us.length
      · rw [if_pos h2, if_pos (by simp; omega)]
        obtain ⟨m, rfl⟩ : ∃ m, j = o + 1 + m := ⟨j - (o + 1), by omega⟩
        have e1 : o + 1 + m - (o + 1) = m := by omega
        have e2 : o + 1 + m - o = m + 1 := by omega
        rw [e1, e2]
        rfl
      · rw [if_neg h2, if_neg (by simp; omega), List.getElem?_set_ne (by omega)]
theorem setL_seg {α : Type} (us l : List α) (o : Nat) (h : o + us.length ≤ l.length) : ((setL l o us).drop o).take us.length = us := by
  apply List.ext_getElem?
  intro j
  rcases Nat.lt_or_ge j us.length with hj | hj
  · rw [List.getElem?_take_of_lt hj, List.getElem?_drop, setL_get _ _ _ _ h, if_pos (by omega)]
    congr 1
    omega
  · rw [List.getElem?_eq_none (by rw [List.length_take]; omega), List.getElem?_eq_none hj]
theorem setL_far {α : Type} (us l : List α) (o a s : Nat) (h : o + us.length ≤ l.length) (hd : a + s ≤ o ∨ o + us.length ≤ a) : ((setL l o us).drop a).take s = (l.drop a).take s := by
  apply List.ext_getElem?
  intro j
  rcases Nat.lt_or_ge j s with hj | hj
  · rw [List.getElem?_take_of_lt hj, List.getElem?_drop, setL_get _ _ _ _ h, if_neg (by omega), List.getElem?_take_of_lt hj, List.getElem?_drop]
  · rw [List.getElem?_eq_none (by rw [List.length_take]; omega), List.getElem?_eq_none (by rw [List.length_take]; omega)]
theorem setCells_far (g : Nat) : ∀ (us : List Value) (w : World) (o k : Nat), k ≠ g → (setCells g w o us).heap[k]? = w.heap[k]?
  | [], w, o, k, h => rfl
  | u :: us, w, o, k, h => by rw [setCells, setCells_far g us _ _ k h]; exact Below.heap_setCell w ⟨g, o, none⟩ u k h
theorem setCells_own {e size n cap : Nat} {g : Nat} : ∀ (us : List Value) (w : World) (o : Nat) (xs : List Value), w.ownsRow 0 e size (.slice (some ⟨g, 0, none⟩) n cap) n xs → (setCells g w o us).ownsRow 0 e size (.slice (some ⟨g, 0, none⟩) n cap) n (setL xs o us)
  | [], _, _, _, h => h
  | u :: us, w, o, xs, h => by rw [setCells, setL]; exact setCells_own us _ _ _ (World.ownsRow.stored h o u).1
theorem setCells_but {F : List Nat} {w0 : World} {g : Nat} (hg : g ∈ F ∨ w0.heap.size ≤ g) : ∀ (us : List Value) (w : World) (o : Nat), But F w0 w → But F w0 (setCells g w o us)
  | [], _, _, h => h
  | u :: us, w, o, h => by
    rw [setCells]
    refine setCells_but hg us _ _ ?_
    rcases hg with hg | hg
    · exact h.set hg o u
    · exact h.set_new hg o u
theorem setCells_below {w0 : World} {g : Nat} (hg : w0.heap.size ≤ g) : ∀ (us : List Value) (w : World) (o : Nat), Below w0.heap.size w0 w → Below w0.heap.size w0 (setCells g w o us)
  | [], _, _, h => h
  | u :: us, w, o, h => by rw [setCells]; exact setCells_below hg us _ _ (bl_set h hg u)
theorem setCells_size (g : Nat) : ∀ (us : List Value) (w : World) (o : Nat), (setCells g w o us).heap.size = w.heap.size
  | [], _, _ => rfl
  | u :: us, w, o => by rw [setCells, setCells_size g us]; simp [World.setCell]

theorem flat_set {α : Type} (Fs : List (List α)) (k : Nat) (hk : k < Fs.length) (Fi : List α) : (Fs.set k Fi).flatten = (Fs.take k).flatten ++ (Fi ++ (Fs.drop (k + 1)).flatten) := by
  rw [List.set_eq_take_append_cons_drop, if_pos hk, List.flatten_append, List.flatten_cons]
theorem flat_split {α : Type} (Fs : List (List α)) (k : Nat) (hk : k < Fs.length) : Fs.flatten = (Fs.take k).flatten ++ (Fs[k] ++ (Fs.drop (k + 1)).flatten) := by
  have h : Fs.set k Fs[k] = Fs := by simp
  have := flat_set Fs k hk Fs[k]
  rwa [h] at this
theorem mem_put {Fs : List (List Nat)} {k q : Nat} {Fi : List Nat} (hk : k < Fs.length) (h : q ∈ (Fs.set k Fi).flatten) : q ∈ Fi ∨ q ∈ Fs.flatten := by
  rw [flat_set Fs k hk] at h
  rw [flat_split Fs k hk]
  simp only [List.mem_append] at h ⊢
  rcases h with h | h | h
  · exact .inr (.inl h)
  · exact .inl h
  · exact .inr (.inr (.inr h))
theorem nodup_put {Fs : List (List Nat)} {k g : Nat} {Fi : List Nat} (hk : k < Fs.length) (h : (g :: Fs.flatten).Nodup) (hFi : Fi.Nodup) (hd : ∀ q ∈ Fi, q ∉ g :: Fs.flatten) : (g :: (Fs.set k Fi).flatten).Nodup := by
  rw [List.nodup_cons] at h ⊢
  obtain ⟨h1, h2⟩ := h
  refine ⟨fun hm => ?_, ?_⟩
  · rcases mem_put hk hm with hm | hm
    · exact hd g hm (by simp)
    · exact h1 hm
  · have hd' : ∀ q ∈ Fi, q ∉ Fs.flatten := fun q hq hm => hd q hq (by simp only [List.mem_cons]; exact .inr hm)
    rw [flat_set Fs k hk]
    rw [flat_split Fs k hk] at h2 hd'
    simp only [List.nodup_append, List.mem_append] at h2 hd' ⊢
    obtain ⟨a, ⟨b, c, d⟩, e⟩ := h2
    refine ⟨a, ⟨hFi, c, fun x hx y hy hxy => ?_⟩, fun x hx y hy hxy => ?_⟩
    · subst hxy
      exact hd' x hx (.inr (.inr hy))
    · subst hxy
      rcases hy with hy | hy
      · exact hd' x hy (.inl hx)
      · exact e x hx x (.inr hy) rfl
namespace Knd
def OwnF {α : Type} (d : Knd α) (e : Nat) (w : World) (v : Value) (xs : List α) (Fs : List (List Nat)) : Prop := ∃ inner, w.ownsRow 0 e d.sz v xs.length inner ∧ Els d w xs inner Fs
section
variable {α : Type} {d : Knd α} {e : Nat} {w w1 : World} {v : Value} {xs : List α} {F : List Nat} {Fs : List (List Nat)} {g n c : Nat}
theorem OwnF.own (h : OwnF d e w v xs Fs) : Own d e w v xs (v.ownBlock.toList ++ Fs.flatten) := by
  obtain ⟨inner, ho, hr⟩ := h
  exact ⟨inner, Fs, ho, hr, rfl⟩
theorem Own.fs (h : Own d e w v xs F) : ∃ Fs, OwnF d e w v xs Fs ∧ F = v.ownBlock.toList ++ Fs.flatten := by
  obtain ⟨inner, Fs, ho, hr, rfl⟩ := h
  exact ⟨Fs, ⟨inner, ho, hr⟩, rfl⟩
theorem OwnF.len (h : OwnF d e w v xs Fs) : Fs.length = xs.length := by
  obtain ⟨inner, ho, hr⟩ := h
  exact hr.2.1
theorem OwnF.frame (h : OwnF d e w v xs Fs) (hm : ∀ g ∈ v.ownBlock.toList ++ Fs.flatten, w1.heap[g]? = w.heap[g]?) : OwnF d e w1 v xs Fs := by
  obtain ⟨Fs', h2, h3⟩ := (h.own.frame hm).fs
  obtain ⟨inner, ho, hr⟩ := h
  refine ⟨inner, ?_, hr.frame (fun g hg => hm g (List.mem_append_right _ hg))⟩
  obtain ⟨h1, h2⟩ := ho
  refine ⟨h1, ?_⟩
  rcases h2 with h2 | ⟨g, cap, cur, rfl, hg, hh, r⟩
  · exact .inl h2
  · exact .inr ⟨g, cap, cur, rfl, hg, (hm g (by simp [Value.ownBlock])).trans hh, r⟩
theorem OwnF.lt (h : OwnF d e w v xs Fs) : ∀ g ∈ v.ownBlock.toList ++ Fs.flatten, g < w.heap.size := h.own.lt
theorem OwnF.below (h : OwnF d e w v xs Fs) (hb : Below w.heap.size w w1) : OwnF d e w1 v xs Fs := h.frame (fun g hg => hb.block g (h.lt g hg))
theorem OwnF.cell (h : OwnF d e w (.slice (some ⟨g, 0, none⟩) n c) xs Fs) (j : Nat) (hj : j < xs.length * d.sz) : ∃ u, w.cell? ⟨g, j, none⟩ = some u := by
  obtain ⟨inner, ho, hr⟩ := h
  have hn : n = xs.length := by
    rcases ho.2 with ⟨h1, _⟩ | ⟨g', cap', cur, h1, _⟩
    · cases h1
    · injection h1
  subst hn
  rw [World.ownsRow.cellAt ho j hj]
  have : j < inner.length := by rw [ho.1]; exact hj
  exact ⟨_, List.getElem?_eq_getElem this⟩
theorem OwnF.free (h : OwnF d e w (.slice (some ⟨g, 0, none⟩) n c) xs Fs) (j : Nat) : w.frozen? ⟨g, j, none⟩ = false := by
  obtain ⟨inner, ho, hr⟩ := h
  have hn : n = xs.length := by
    rcases ho.2 with ⟨h1, _⟩ | ⟨g', cap', cur, h1, _⟩
    · cases h1
    · injection h1
  subst hn
  exact World.ownsRow.frozenAt ho j
theorem Own.set_old (h : Own d e w v xs F) {B : Nat} (hF : ∀ q ∈ F, B ≤ q) {p : Addr} (hp : p.block < B) (u : Value) : Own d e (w.setCell p u) v xs F :=
  h.frame (fun q hq => Below.heap_setCell w p u q (by have := hF q hq; omega))
theorem Own.below (h : Own d e w v xs F) (hb : Below w.heap.size w w1) : Own d e w1 v xs F := h.frame (fun q hq => hb.block q (h.lt q hq))
/-- One element written anew. -/
theorem OwnF.put (h : OwnF d e w (.slice (some ⟨g, 0, none⟩) n c) xs Fs) (k : Nat) (hk : k < xs.length) (us : List Value) (x : α) (Fi : List Nat) (hO : d.O w x us Fi) (hg : g ∉ Fi) (hn : g ∉ Fs.flatten) :
    OwnF d e (setCells g w (k * d.sz) us) (.slice (some ⟨g, 0, none⟩) n c) (xs.set k x) (Fs.set k Fi) := by
  obtain ⟨inner, ho, hr⟩ := h
  have hn' : n = xs.length := by
    rcases ho.2 with ⟨h1, _⟩ | ⟨g', cap', cur, h1, _⟩
    · cases h1
    · injection h1
  subst hn'
  have hus : us.length = d.sz := d.K_len (d.K_of_O hO)
  have hle : k * d.sz + us.length ≤ inner.length := by rw [hus, ho.1, ← Nat.succ_mul]; exact Nat.mul_le_mul_right _ hk
  refine ⟨setL inner (k * d.sz) us, ?_, ?_, ?_, fun j p Fj hp hF => ?_⟩
  · have := setCells_own us w (k * d.sz) inner ho
    rwa [List.length_set]
  · rw [setL_length, List.length_set]
    exact ho.1
  · rw [List.length_set, List.length_set]
    exact hr.2.1
  · by_cases hj : j = k
    · subst hj
      have h1 : x = p := by
        rw [List.getElem?_set_self hk] at hp
        exact Option.some.inj hp
      have h2 : Fi = Fj := by
        rw [List.getElem?_set_self (by rw [hr.2.1]; exact hk)] at hF
        exact Option.some.inj hF
      subst h1
      subst h2
      have := setL_seg us inner (j * d.sz) hle
      rw [hus] at this
      rw [this]
      exact d.O_frame (fun q hq => setCells_far g us w _ q (fun he => hg (he ▸ hq))) hO
    · rw [List.getElem?_set_ne (Ne.symm hj)] at hp hF
      rw [setL_far us inner (k * d.sz) (j * d.sz) d.sz hle (by
        rw [hus]
        rcases Nat.lt_or_ge j k with hlt | hge
        · left
          rw [← Nat.succ_mul]
          exact Nat.mul_le_mul_right _ hlt
        · right
          have : k + 1 ≤ j := by omega
          rw [← Nat.succ_mul]
          exact Nat.mul_le_mul_right _ this)]
      exact d.O_frame (fun q hq => setCells_far g us w _ q (fun he => hn (List.mem_flatten.2 ⟨Fj, List.mem_of_getElem? hF, he ▸ hq⟩))) (hr.2.2 j p Fj hp hF)
end
theorem els_made {α : Type} (d : Knd α) (w : World) (z : Value) (z0 : α) (hz : z.cells.size = d.sz) (hs : 0 < d.sz) (h0 : d.O w z0 z.cells.toList []) (m : Nat) : Els d w (List.replicate m z0) (madeCells z.cells (m * d.sz)).toList (List.replicate m []) := by
  refine ⟨by simp [size_madeCells], by simp, fun j p Fj hj hF => ?_⟩
  obtain ⟨hjl, hp⟩ := List.getElem?_eq_some_iff.1 hj
  have hjm : j < m := by simpa using hjl
  have hp' : z0 = p := by simpa using hp
  subst hp'
  have hF' : Fj = [] := by
    obtain ⟨_, h⟩ := List.getElem?_eq_some_iff.1 hF
    simpa using h.symm
  subst hF'
  have hle : j * d.sz + d.sz ≤ m * d.sz := by rw [← Nat.succ_mul]; exact Nat.mul_le_mul_right _ hjm
  have : ((madeCells z.cells (m * d.sz)).toList.drop (j * d.sz)).take d.sz = z.cells.toList := by
    apply List.ext_getElem
    · simp [size_madeCells, hz]
      omega
    · intro i h1 h2
      have hi : i < d.sz := by
        rw [List.length_take] at h1
        omega
      simp only [List.getElem_take, List.getElem_drop, Array.getElem_toList]
      have hmod : (j * d.sz + i) % z.cells.size = i := by
        rw [hz, Nat.mul_comm, Nat.mul_add_mod]
        exact Nat.mod_eq_of_lt hi
      simp only [madeCells, Array.getElem_map, Array.getElem_range, hmod]
      rw [getElem!_pos _ _ (by omega)]
  rw [this]
  exact h0
/-- make([]T, n), as an arm of the walk. -/
theorem wp_made {α : Type} (d : Knd α) {P : Program} {ops : Array Oper} {rest : List Oper} {o : Oper} {a : Act} {Q : Exit → Act → World → Prop} {W : World} (hgd : o.guard = none) (t x y : _) (ho : o.op = .makeSlice t x y) (n : Nat) (hx : a.eval x = .int .i64 n) (hy : a.eval y = .int .i64 n)
    (e : Nat) (ht : P.underlying t = some (.slice e)) (z : Value) (bytes : Nat) (hinfo : (P.info? e).map (fun i => (i.zero, i.size, i.bytes)) = some (some z, d.sz, bytes)) (hz : z.cells.size = d.sz) (hs0 : 0 < d.sz) (hb0 : 0 < bytes)
    (z0 : α) (hzero : ∀ w, d.O w z0 z.cells.toList []) (hl : n * bytes ≤ 281474976710656)
    (h : ∀ g w1, g = W.heap.size → OwnF d e w1 (.slice (some ⟨g, 0, none⟩) n n) (List.replicate n z0) (List.replicate n []) → Below W.heap.size W w1 → W.heap.size < w1.heap.size → wpList P ops Q rest (a.put o.dst (.slice (some ⟨g, 0, none⟩) n n)) w1) : wpList P ops Q (o :: rest) a W := by
  obtain ⟨i0, hi, hzz⟩ := Option.map_eq_some_iff.1 hinfo
  simp only [Prod.mk.injEq] at hzz
  obtain ⟨hz0, hz1, hz2⟩ := hzz
  have hm : n ≤ 281474976710656 := Nat.le_trans (Nat.le_mul_of_pos_right _ hb0) hl
  have hr := run_make (P := P) W t e i0 z ht hi hz0 .i64 .i64 (n : Int) (n : Int) (by omega) (by omega)
    (by
      have h3 : ((i0.bytes * n : Nat) : Int) ≤ 281474976710656 := by rw [hz2, Nat.mul_comm]; omega
      rwa [Int.natCast_mul] at h3) (by omega)
  simp only [Int.toNat_natCast] at hr
  rw [hz1] at hr
  have hrun : (execOp a.eval o).run P W = .ok (.value (.slice (some ⟨W.heap.size, 0, none⟩) n n)) (W.alloc (.cells (madeCells z.cells (n * d.sz)) e)) := by simp [execOp, ho, hx, hy, hr]
  refine wpList_plain hgd fun K hK => ?_
  unfold Oper.wp
  rw [hrun]
  refine hK _ _ (h _ _ rfl ⟨_, ?_, els_made d _ z z0 hz hs0 (hzero _) n⟩ ((Below.refl _ _).alloc (Nat.le_refl _) _) (by simp))
  have h2 := World.ownsRow_lit (base := 0) (e := e) (size := d.sz) W (madeCells z.cells (n * d.sz)) n (Nat.zero_le _) (by simp [maxLen]; omega) (size_madeCells _ _)
  simpa using h2
end Knd
/-- What a call hands back as a new row. -/
def NewRow {α : Type} (d : Knd α) (e : Nat) (xs : List α) (w : World) (en : Ending) (w' : World) : Prop := ∃ v F, en = .returned v ∧ d.Own e w' v xs F ∧ F.Nodup ∧ (∀ g ∈ F, w.heap.size ≤ g) ∧ Below w.heap.size w w'
/-- What a call hands back as a new record. -/
def NewAgg {α : Type} (d : Knd α) (x : α) (w : World) (en : Ending) (w' : World) : Prop := ∃ cs F, en = .returned (.agg cs) ∧ d.O w' x cs.toList F ∧ F.Nodup ∧ (∀ g ∈ F, w.heap.size ≤ g) ∧ Below w.heap.size w w'
end Go.Proofs.Yteoibjacgnmnpaa.Mem
