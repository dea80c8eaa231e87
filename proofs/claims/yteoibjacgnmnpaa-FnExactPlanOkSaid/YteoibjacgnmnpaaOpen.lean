/- Arguments of any nesting (structs, slices, texts, numbers, truths) opened to kinds: one lemma a form of type. -/
import Derived.Test.YteoibjacgnmnpaaMem
import Derived.Deep.Slices
import Derived.Deep.Fields
import Derived.ChangeSame
import Derived.WideShapes
namespace Go.Proofs.Yteoibjacgnmnpaa.Open
open Go Go.ChangeShapes Go.WideShapes Go.Deep Go.RowKit Go.Proofs.Yteoibjacgnmnpaa.Mem

/-- What is read at a type stands as this kind says, and meets V. -/
def OpenK (P : Program) (t : TypeId) {α : Type} (k : Knd α) (V : α → Prop) : Prop :=
  ∀ (H : Type) (enc : TypeId × Value → H) (w : World) (base : Nat) (spare : Nat → Bool) (held : Bool) (fuel : Nat) (cs : List Value) (x : DataW H × List MemPlace),
    DataW.trod enc P w base spare held fuel t cs = some x → ∃ a, k.K w a cs ∧ V a

theorem open_int {P : Program} {t : TypeId} {i : IntKind} (ht : P.underlying t = some (.int i)) : OpenK P t (Knd.int i) (fun n => (Lit.int i n).wf = true) := by
  intro H enc w base spare held fuel cs x h
  obtain ⟨n, rfl, _, hw⟩ := DataW.trod_int ht h
  exact ⟨n, rfl, hw⟩

theorem open_bool {P : Program} {t : TypeId} (ht : P.underlying t = some .bool) : OpenK P t Knd.bool (fun _ => True) := by
  intro H enc w base spare held fuel cs x h
  obtain ⟨b, rfl, _⟩ := DataW.trod_bool ht h
  exact ⟨b, rfl, trivial⟩

theorem open_str {P : Program} {t : TypeId} (ht : P.underlying t = some .string) : OpenK P t Knd.str (fun s => s.size ≤ maxLen) := by
  intro H enc w base spare held fuel cs x h
  obtain ⟨s, rfl, _, hs⟩ := DataW.trod_string ht h
  exact ⟨s, rfl, hs⟩

theorem list_of {α : Type} (len : Nat) (R : Nat → α → Prop) (h : ∀ i, i < len → ∃ a, R i a) : ∃ l : List α, l.length = len ∧ ∀ i a, l[i]? = some a → R i a := by
  induction len with
  | zero => exact ⟨[], rfl, fun i a h => by simp at h⟩
  | succ n ih =>
    obtain ⟨l, hl, hr⟩ := ih (fun i hi => h i (by omega))
    obtain ⟨a, ha⟩ := h n (by omega)
    refine ⟨l ++ [a], by simp [hl], fun i b hb => ?_⟩
    rcases Nat.lt_or_ge i l.length with hi | hi
    · rw [List.getElem?_append_left hi] at hb
      exact hr i b hb
    · have hi' : i = l.length := by
        have := (List.getElem?_eq_some_iff.1 hb).1
        simp at this
        omega
      subst hi'
      simp at hb
      subst hb
      rw [hl]
      exact ha

theorem open_row {P : Program} {t e : TypeId} {E : Nat} {α : Type} {d : Knd α} {V : α → Prop} (ht : P.underlying t = some (.slice e)) (hC : P.cellsOf e = d.sz) (he : OpenK P e d V) :
    OpenK P t (Knd.slice E d) (fun l => l.length ≤ maxLen ∧ ∀ a ∈ l, V a) := by
  intro H enc w base spare held fuel cs x h
  rcases open_slice ht h with ⟨rfl, _⟩ | ⟨a, len, cap, m, n, D, Pl, rfl, hb, hl, hm, hmm, hx, hi⟩
  · exact ⟨[], ⟨none, 0, rfl, Nat.le_refl _, rfl, by simp, fun h => absurd h (by simp)⟩, by simp [maxLen], by simp⟩
  · have hlm : len ≤ m := by rw [hmm]; split <;> omega
    have hex : ∀ i, i < len → ∃ y : α, (∃ c, c.length = d.sz ∧ d.K w y c ∧ ∀ j u, c[j]? = some u → w.cell? (a.add (i * d.sz + j)) = some u) ∧ V y := by
      intro i hil
      obtain ⟨cs', hc, htr⟩ := hi i (by omega)
      obtain ⟨y, hk, hv⟩ := he H enc w base spare held n cs' _ htr
      obtain ⟨_, hcl, hat⟩ := World.cells?_some hc
      refine ⟨y, ⟨cs', d.K_len hk, hk, fun j u hu => ?_⟩, hv⟩
      have hj : j < cs'.length := (List.getElem?_eq_some_iff.1 hu).1
      have := hat j (by omega)
      rw [hC, Go.Deep.add_add] at this
      rw [this, hu]
    obtain ⟨l, hll, hlr⟩ := list_of len _ hex
    refine ⟨l, ⟨some a, cap, by rw [hll], by omega, ?_⟩, by omega, fun y hy => ?_⟩
    · rw [hll]
      refine ⟨hll, by unfold maxLen at hm; omega, fun _ => ⟨a, rfl, fun j p hp => ?_⟩⟩
      obtain ⟨c, _, hk, hc⟩ := (hlr j p hp).1
      exact ⟨c, hk, hc⟩
    · obtain ⟨i, hi⟩ := List.mem_iff_getElem?.1 hy
      exact (hlr i y hi).2

/-- The fields from an offset on. -/
def OpenL (P : Program) (off : Nat) (fs : List Field) {α : Type} (k : Knd α) (V : α → Prop) : Prop :=
  ∀ (H : Type) (enc : TypeId × Value → H) (w : World) (base : Nat) (spare : Nat → Bool) (held : Bool) (n : Nat) (cs : List Value), cs.length = off + k.sz →
    (∀ f ∈ fs, ∃ y, DataW.trod enc P w base spare held n f.type ((cs.drop f.offset).take (P.cellsOf f.type)) = some y) → ∃ a, k.K w a (cs.drop off) ∧ V a

theorem open_last {P : Program} {off : Nat} {f : Field} {α : Type} {k : Knd α} {V : α → Prop} (ho : f.offset = off) (hC : P.cellsOf f.type = k.sz) (h : OpenK P f.type k V) : OpenL P off [f] k V := by
  intro H enc w base spare held n cs hl hf
  obtain ⟨y, hy⟩ := hf f (by simp)
  obtain ⟨a, hk, hv⟩ := h H enc w base spare held n _ y hy
  refine ⟨a, ?_, hv⟩
  rw [ho, hC, List.take_of_length_le (by rw [List.length_drop]; omega)] at hk
  exact hk

theorem open_cons {P : Program} {off : Nat} {f : Field} {fs : List Field} {α β : Type} {k : Knd α} {V : α → Prop} {k' : Knd β} {V' : β → Prop} (off' : Nat) (hn : off + k.sz = off') (ho : f.offset = off) (hC : P.cellsOf f.type = k.sz) (h : OpenK P f.type k V) (h' : OpenL P off' fs k' V') :
    OpenL P off (f :: fs) (Knd.pair k k') (fun x => V x.1 ∧ V' x.2) := by
  subst hn
  intro H enc w base spare held n cs hl hf
  have hl' : cs.length = off + (k.sz + k'.sz) := hl
  obtain ⟨y, hy⟩ := hf f (by simp)
  obtain ⟨a, hk, hv⟩ := h H enc w base spare held n _ y hy
  obtain ⟨b, hk', hv'⟩ := h' H enc w base spare held n cs (by omega) (fun g hg => hf g (by simp [hg]))
  refine ⟨(a, b), ⟨(cs.drop off).take k.sz, cs.drop (off + k.sz), ?_, ?_, hk'⟩, hv, hv'⟩
  · rw [← List.drop_drop, List.take_append_drop]
  · rw [ho, hC] at hk
    exact hk

theorem open_struct {P : Program} {t : TypeId} {fs : List Field} {α : Type} {k : Knd α} {V : α → Prop} (ht : P.underlying t = some (.struct fs.toArray)) (hC : P.cellsOf t = k.sz) (h : OpenL P 0 fs k V) : OpenK P t k V := by
  intro H enc w base spare held fuel cs x hx
  obtain ⟨xs, n, _, _, hl, hlen, hg⟩ := DataW.trod_struct ht hx
  obtain ⟨a, hk, hv⟩ := h H enc w base spare held n cs (by omega) (fun f hf => by
    obtain ⟨i, hi⟩ := List.mem_iff_getElem?.1 hf
    have hi' : fs.toArray[i]? = some f := by simpa using hi
    have hlt : i < fs.length := (List.getElem?_eq_some_iff.1 hi).1
    have hlen' : xs.length = fs.length := by simpa using hlen
    exact ⟨xs[i]'(by omega), (hg i f hi').trans (List.getElem?_eq_getElem _)⟩)
  exact ⟨a, by simpa using hk, hv⟩

theorem open_iso {P : Program} {t : TypeId} {α β : Type} {d : Knd α} {V : α → Prop} (f : β → α) (g : α → β) (hfg : ∀ x, f (g x) = x) (h : OpenK P t d V) : OpenK P t (Knd.iso d f) (fun y => V (f y)) := by
  intro H enc w base spare held fuel cs x hx
  obtain ⟨a, hk, hv⟩ := h H enc w base spare held fuel cs x hx
  refine ⟨g a, ?_, ?_⟩
  · show d.K w (f (g a)) cs
    rw [hfg]
    exact hk
  · show V (f (g a))
    rw [hfg]
    exact hv

theorem open_imp {P : Program} {t : TypeId} {α : Type} {d : Knd α} {V V' : α → Prop} (h : OpenK P t d V) (hv : ∀ a, V a → V' a) : OpenK P t d V' := by
  intro H enc w base spare held fuel cs x hx
  obtain ⟨a, hk, ha⟩ := h H enc w base spare held fuel cs x hx
  exact ⟨a, hk, hv a ha⟩

/-- Use: an argument's value. -/
theorem OpenK.at_ {P : Program} {t : TypeId} {α : Type} {k : Knd α} {V : α → Prop} (h : OpenK P t k V) {H : Type} {enc : TypeId × Value → H} {w : World} {base : Nat} {spare : Nat → Bool} {held : Bool} {v : Value} {d : DataW H} {p : List MemPlace}
    (ht : DataW.Trod enc P w base spare held t v d p) : ∃ a, k.K w a v.cells.toList ∧ V a := by
  obtain ⟨fuel, hf⟩ := ht
  exact h H enc w base spare held fuel _ _ hf

end Go.Proofs.Yteoibjacgnmnpaa.Open
