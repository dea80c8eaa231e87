/- What the walks of the laws with marks lean on: a module's two rows as one resource; comparisons of rows. -/
import Derived.Test.YteoibjacgnmnpaaMkM
import Derived.Test.YteoibjacgnmnpaaSzM
import Derived.Test.YteoibjacgnmnpaaTo
import Derived.Test.YteoibjacgnmnpaaEq
import Derived.Test.YteoibjacgnmnpaaGood
namespace Go.Proofs.Yteoibjacgnmnpaa.Mem
open Go Go.RowKit
/-- Two resources as one. -/
def Res.two (a b : Res) : Res := ⟨a.F ++ b.F, fun W => a.P W ∧ b.P W, fun h g hg => by
  rcases List.mem_append.1 hg with hg | hg
  · exact a.lt h.1 g hg
  · exact b.lt h.2 g hg, fun h k => ⟨a.loc (fun g hg => h g (List.mem_append_left _ hg)) k.1, b.loc (fun g hg => h g (List.mem_append_right _ hg)) k.2⟩⟩
end Go.Proofs.Yteoibjacgnmnpaa.Mem
namespace Go.Proofs.Yteoibjacgnmnpaa.Dat
open Go Go.RowKit Go.Proofs.Yteoibjacgnmnpaa.Mem
set_option linter.unusedVariables false
set_option linter.unusedSimpArgs false
def Res.mod (v u : Value) (t : List ByteArray) (l : List DFunc) (F G : List Nat) : Res := Res.two (Res.own Knd.str 9 v t F) (Res.own kFunc 97 u l G)
theorem St.newMod {w W W' : World} {L : List Res} {v u : Value} {t : List ByteArray} {l : List DFunc} {F G : List Nat} (h : St w L W) (hot : Knd.str.Own 9 W' v t F) (hor : kFunc.Own 97 W' u l G) (hnd : (F ++ G).Nodup) (hF : ∀ g ∈ F ++ G, W.heap.size ≤ g) (hb : Below W.heap.size W W') : St w (Res.mod v u t l F G :: L) W' :=
  h.new (r := Res.mod v u t l F G) hb ⟨hot, hor⟩ hnd hF
/-- A module among the resources, as a call reads it. -/
theorem St.modR {w W : World} {L : List Res} {v u : Value} {t : List ByteArray} {l : List DFunc} {F G : List Nat} (h : St w L W) (i : Nat) (hi : L[i]? = some (Res.mod v u t l F G)) : ∃ A c B d, v = .slice A t.length c ∧ u = .slice B l.length d ∧ Knd.str.Row W A t.length t ∧ kFunc.Row W B l.length l := by
  obtain ⟨h1, h2⟩ := h.get i hi
  obtain ⟨A, c, hv, _, hr⟩ := Knd.Own.row h1
  obtain ⟨B, d, hu, _, hr2⟩ := Knd.Own.row h2
  exact ⟨A, c, B, d, hv, hu, hr, hr2⟩
theorem St.modA {w W : World} {L : List Res} {A B : Option Addr} {n m c d : Nat} {t : List ByteArray} {l : List DFunc} {F G : List Nat} (h : St w L W) (i : Nat) (hi : L[i]? = some (Res.mod (.slice A n c) (.slice B m d) t l F G)) : Knd.str.Row W A t.length t ∧ kFunc.Row W B l.length l := by
  obtain ⟨A', c', B', d', h1, h2, h3, h4⟩ := St.modR h i hi
  cases h1
  cases h2
  exact ⟨h3, h4⟩
theorem St.rowA {w W : World} {L : List Res} {α : Type} {d : Knd α} {e : Nat} {A : Option Addr} {n c : Nat} {xs : List α} {F : List Nat} (h : St w L W) (i : Nat) (hi : L[i]? = some (Res.own d e (.slice A n c) xs F)) : d.Row W A xs.length xs := by
  obtain ⟨A', c', h1, _, h3⟩ := h.row i hi
  cases h1
  exact h3
theorem St.rowN {w W : World} {L : List Res} {α : Type} {d : Knd α} {e : Nat} {A : Option Addr} {n c : Nat} {xs : List α} {F : List Nat} (h : St w L W) (i : Nat) (hi : L[i]? = some (Res.own d e (.slice A n c) xs F)) (hn : xs.length = n) : d.Row W A n xs := by
  have h1 := St.rowA h i hi
  rwa [hn] at h1
theorem St.newRowF {w W W' : World} {L : List Res} {α : Type} {d : Knd α} {e : Nat} {xs : List α} {en : Ending} (h : St w L W) (hn : NewRow d e xs W en W') : ∃ A c F, en = .returned (.slice A xs.length c) ∧ St w (Res.own d e (.slice A xs.length c) xs F :: L) W' := by
  obtain ⟨v, F, rfl, h2⟩ := h.newRow hn
  obtain ⟨A, c, rfl, _, _⟩ := h2.row 0 rfl
  exact ⟨A, c, F, rfl, h2⟩
/-- A module's mark stays small. -/
theorem ctFunc_small (l : List DFunc) (h1 : l.length ≤ 1048576) (h2 : ∀ x ∈ l, x.code.length ≤ 1048576) : ctL ctFunc l ≤ 4611686018427 := by
  have h3 : ∀ x ∈ l, ctFunc x ≤ 2097154 := fun x hx => by
    have := h2 x hx
    have h4 : ctL ctIns x.code = 2 * x.code.length := by
      unfold ctL
      generalize x.code = c
      induction c with
      | nil => rfl
      | cons y c ih => simp [ctIns, ih]; omega
    unfold ctFunc
    omega
  have h5 : ∀ m : List DFunc, (∀ x ∈ m, ctFunc x ≤ 2097154) → ctL ctFunc m ≤ 2097154 * m.length := by
    intro m
    induction m with
    | nil => simp [ctL]
    | cons y m ih =>
      intro h
      have a1 := h y (by simp)
      have a2 := ih (fun x hx => h x (by simp [hx]))
      unfold ctL at a2 ⊢
      simp only [List.map_cons, List.sum_cons, List.length_cons]
      omega
  have := h5 l h3
  omega
theorem fixD_len (l : List DFunc) (c : List DIns) : ∀ (k : Nat) (d : List Int), (fixD l c k d).length = d.length := by
  have h1 : ∀ (n : Nat) (left : Int) (s : List Int × Bool) (q : Int), (put1 n left s q).1.length = s.1.length := fun n left s q => by unfold put1; split <;> simp
  have h2 : ∀ (n : Nat) (left : Int) (ns : List Int) (s : List Int × Bool), (ns.foldl (put1 n left) s).1.length = s.1.length := by
    intro n left ns
    induction ns with
    | nil => intro s; rfl
    | cons q ns ih => intro s; rw [List.foldl_cons, ih, h1]
  have h3 : ∀ (n : Nat) (x : DIns) (pc : Nat) (s : List Int × Bool), (stepD l n x pc s).1.length = s.1.length := fun n x pc s => by
    unfold stepD
    split
    · rfl
    · split
      · exact h2 _ _ _ _
      · rfl
  have h4 : ∀ (n : Nat) (c : List DIns) (pc : Nat) (s : List Int × Bool), (sweepD l n c pc s).1.length = s.1.length := by
    intro n c
    induction c with
    | nil => intro pc s; rfl
    | cons x c ih => intro pc s; rw [sweepD, ih, h3]
  intro k
  induction k with
  | zero => intro d; rfl
  | succ k ih =>
    intro d
    unfold fixD
    split
    · rw [ih, h4]
    · rw [h4]
theorem depOf_len (t : List ByteArray) (l : List DFunc) (f : Int) (hm : l.length ≤ 1048576) (hv : ∀ x ∈ l, x.code.length ≤ 1048576) : (depOf t l f).length ≤ 1048576 := by
  unfold depOf
  split
  · rename_i h
    have hk : f.toNat < l.length := by omega
    rw [List.getD_eq_getElem?_getD, List.getElem?_eq_getElem hk]
    unfold depthsL
    rw [fixD_len]
    have := hv _ (List.getElem_mem hk)
    simpa [initD] using this
  · simp
end Go.Proofs.Yteoibjacgnmnpaa.Dat
