/- A function's code taken out of a row of functions, turned in place and laid back; a function's code replaced. -/
import Derived.Test.YticlknijmnddeaaCopy
namespace Go.Proofs.Yticlknijmnddeaa.Mem
open Go Go.RowKit
set_option linter.unusedVariables false
set_option linter.unusedSimpArgs false
namespace Knd.At
variable {α : Type} {d : Knd α} {e : Nat} {w : World} {xs : List α} {Fs : List (List Nat)} {g n c : Nat} {inner : List Value}
/-- One cell of one element written; what the element owns is another. -/
theorem putF (h : At d e w g n c xs Fs inner) (j i : Nat) (hj : j < xs.length) (hi : i < d.sz) (u : Value) (x : α) (F2 : List Nat) (hO : d.O w x ((seg d inner j).set i u) F2) (hnd : (g :: (Fs.set j F2).flatten).Nodup) : At d e (w.setCell ⟨g, j * d.sz + i, none⟩ u) g n c (xs.set j x) (Fs.set j F2) (inner.set (j * d.sz + i) u) := by
  have hn := h.num
  subst hn
  have hjF : j < Fs.length := by rw [h.els.2.1]; exact hj
  refine ⟨?_, ⟨?_, ?_, fun k p Fk hp hFk => ?_⟩, hnd⟩
  · have := (World.ownsRow.stored h.row (j * d.sz + i) u).1
    rw [List.length_set]
    exact this
  · rw [List.length_set, List.length_set]
    exact h.els.1
  · rw [List.length_set, List.length_set]
    exact h.els.2.1
  · have hfar : ∀ q ∈ Fk, (w.setCell ⟨g, j * d.sz + i, none⟩ u).heap[q]? = w.heap[q]? := fun q hq => Below.heap_setCell w _ u q (fun he => (List.nodup_cons.1 hnd).1 (by
      have he' : q = g := he
      rw [← he']
      exact List.mem_flatten.2 ⟨Fk, List.mem_of_getElem? hFk, hq⟩))
    show d.O _ p (seg d _ k) Fk
    by_cases hk : k = j
    · subst hk
      rw [List.getElem?_set_self hj] at hp
      cases hp
      rw [List.getElem?_set_self hjF] at hFk
      cases hFk
      rw [seg_set_same _ _ _ _ hi]
      exact d.O_frame hfar hO
    · rw [List.getElem?_set_ne (Ne.symm hk)] at hp hFk
      rw [seg_set_far _ _ _ _ _ hi hk]
      exact d.O_frame hfar (h.els.2.2 k p Fk hp hFk)
end Knd.At
/-- A list of lists, one of them in front. -/
theorem flat_perm {Fs : List (List Nat)} {j : Nat} {Fj : List Nat} (h : Fs[j]? = some Fj) : Fs.flatten.Perm (Fj ++ (Fs.eraseIdx j).flatten) := by
  have h1 := (erase_perm Fs j Fj h).flatten
  rw [List.flatten_cons] at h1
  exact h1.symm
theorem flat_set_perm {Fs : List (List Nat)} {j : Nat} {F2 : List Nat} (h : j < Fs.length) : (Fs.set j F2).flatten.Perm (F2 ++ (Fs.eraseIdx j).flatten) := by
  have h1 := (set_perm Fs j F2 h).flatten
  rw [List.flatten_cons] at h1
  exact h1.symm
end Go.Proofs.Yticlknijmnddeaa.Mem
namespace Go.Proofs.Yticlknijmnddeaa.Dat
open Go Go.RowKit Go.Proofs.Yticlknijmnddeaa.Mem
set_option linter.unusedVariables false
set_option linter.unusedSimpArgs false
/-- A row of functions, the code of one of them away: whatever code is laid back in its own blocks, the row is whole. -/
def Res.hole (v vj : Value) (l : List DFunc) (j : Nat) (x : DFunc) (Fj F' G : List Nat) : Res := ⟨F', fun W => (∀ q ∈ F', q < W.heap.size) ∧ ∀ (W1 : World) (code : List DIns), (∀ q ∈ F', W1.heap[q]? = W.heap[q]?) → kIns.Own 92 W1 vj code Fj → kFunc.Own 89 W1 v (l.set j ⟨x.params, x.locals, code⟩) G, fun h => h.1, fun h k => ⟨fun q hq => by
  have h1 := k.1 q hq
  exact blk_lt ((h q hq).trans (Array.getElem?_eq_getElem h1)), fun W1 code h1 h2 => k.2 W1 code (fun q hq => (h1 q hq).trans (h q hq)) h2⟩⟩
theorem St.openF {w W : World} {L : List Res} {v : Value} {l : List DFunc} {G : List Nat} {j : Nat} {x : DFunc} (h : St w (Res.own kFunc 89 v l G :: L) W) (hx : l[j]? = some x) :
    ∃ (g c : Nat) (vj : Value) (Fj F' : List Nat), v = .slice (some ⟨g, 0, none⟩) l.length c ∧ W.cell? ⟨g, j * 3, none⟩ = some (.int .i64 x.params) ∧ W.cell? ⟨g, j * 3 + 1, none⟩ = some (.int .i64 x.locals) ∧ W.cell? ⟨g, j * 3 + 2, none⟩ = some vj ∧ G.Perm (Fj ++ F') ∧ St w (Res.own kIns 92 vj x.code Fj :: Res.hole v vj l j x Fj F' G :: L) W := by
  have hj : j < l.length := (List.getElem?_eq_some_iff.1 hx).1
  have hown : kFunc.Own 89 W v l G := h.get 0 rfl
  have hnd : G.Nodup := h.nodup 0 rfl
  obtain ⟨g, c, rfl, hg⟩ := own_form hown (by omega)
  obtain ⟨Fs, hF, rfl⟩ := hown.fs
  have e0 : (Value.slice (some ⟨g, 0, none⟩) l.length c).ownBlock.toList = [g] := rfl
  rw [e0] at hnd h ⊢
  obtain ⟨inner, hA⟩ := hF.toAt (by simpa using hnd)
  obtain ⟨Fj, hFj, hO, hc⟩ := hA.elem j x hx
  obtain ⟨vj, F2, hseg, rfl, ho⟩ := kFunc_Oi.1 hO
  rw [hseg] at hc
  have hjF : j < Fs.length := (List.getElem?_eq_some_iff.1 hFj).1
  have hperm : ([g] ++ Fs.flatten).Perm (Fj ++ ([g] ++ (Fs.eraseIdx j).flatten)) := by
    have h1 := (flat_perm hFj).cons g
    refine h1.trans ?_
    have h2 : (g :: (Fj ++ (Fs.eraseIdx j).flatten)).Perm (Fj ++ g :: (Fs.eraseIdx j).flatten) := List.perm_middle.symm
    exact h2
  refine ⟨g, c, vj, Fj, [g] ++ (Fs.eraseIdx j).flatten, rfl, hc 0 _ rfl, hc 1 _ rfl, hc 2 _ rfl, hperm, ?_⟩
  have hlt := h.lts 0 rfl
  have hold := h.olds 0 rfl
  have hsub : ∀ q ∈ Fj ++ ([g] ++ (Fs.eraseIdx j).flatten), q ∈ [g] ++ Fs.flatten := fun q hq => hperm.mem_iff.2 hq
  refine ⟨h.bel, fun r hr => ?_, fun r hr q hq => ?_, ?_⟩
  · rcases List.mem_cons.1 hr with rfl | hr
    · exact ho
    · rcases List.mem_cons.1 hr with rfl | hr
      · refine ⟨fun q hq => hlt q (hsub q (List.mem_append_right _ hq)), fun W1 code h1 h2 => ?_⟩
        refine ⟨inner, Fs, ?_, ⟨?_, ?_, fun k p Fk hp hFk => ?_⟩, rfl⟩
        · have hg1 := h1 g (by simp)
          obtain ⟨a1, a2⟩ := hA.row
          refine ⟨by rw [List.length_set]; exact a1, ?_⟩
          rw [List.length_set]
          rcases a2 with a2 | ⟨g', cap, cur, hv, b2, b3, b4⟩
          · exact .inl a2
          · cases hv
            exact .inr ⟨g, _, cur, rfl, b2, hg1.trans b3, b4⟩
        · rw [List.length_set]
          exact hA.els.1
        · rw [List.length_set]
          exact hA.els.2.1
        · by_cases hk : k = j
          · subst hk
            rw [List.getElem?_set_self hj] at hp
            cases hp
            rw [hFj] at hFk
            cases hFk
            show kFunc.O W1 _ (Knd.At.seg kFunc inner k) _
            rw [hseg]
            exact kFunc_Oi.2 ⟨vj, _, rfl, rfl, h2⟩
          · rw [List.getElem?_set_ne (Ne.symm hk)] at hp
            refine kFunc.O_frame (fun q hq => h1 q ?_) (hA.els.2.2 k p Fk hp hFk)
            refine List.mem_append_right _ (List.mem_flatten.2 ⟨Fk, ?_, hq⟩)
            exact List.mem_eraseIdx_iff_getElem?.2 ⟨k, hk, hFk⟩
      · exact h.at_ r (List.mem_cons_of_mem _ hr)
  · rcases List.mem_cons.1 hr with rfl | hr
    · exact hold q (hsub q (List.mem_append_left _ hq))
    · rcases List.mem_cons.1 hr with rfl | hr
      · exact hold q (hsub q (List.mem_append_right _ hq))
      · exact h.old r (List.mem_cons_of_mem _ hr) q hq
  · have hd := h.dis
    have e2 : (List.map Res.F (Res.own kIns 92 vj x.code Fj :: Res.hole (.slice (some ⟨g, 0, none⟩) l.length c) vj l j x Fj ([g] ++ (Fs.eraseIdx j).flatten) ([g] ++ Fs.flatten) :: L)).flatten = (Fj ++ ([g] ++ (Fs.eraseIdx j).flatten)) ++ (L.map Res.F).flatten := by
      simp [Res.own, Res.hole]
    rw [e2]
    have e3 : (List.map Res.F (Res.own kFunc 89 (.slice (some ⟨g, 0, none⟩) l.length c) l ([g] ++ Fs.flatten) :: L)).flatten = ([g] ++ Fs.flatten) ++ (L.map Res.F).flatten := by
      simp [Res.own]
    rw [e3] at hd
    exact ((hperm.append_right _).nodup_iff).1 hd
theorem St.closeF {w W : World} {L : List Res} {v vj : Value} {l : List DFunc} {j : Nat} {x : DFunc} {Fj F' G : List Nat} {code : List DIns} (h : St w (Res.own kIns 92 vj code Fj :: Res.hole v vj l j x Fj F' G :: L) W) (hG : G.Perm (Fj ++ F')) : St w (Res.own kFunc 89 v (l.set j ⟨x.params, x.locals, code⟩) G :: L) W := by
  have h1 : kIns.Own 92 W vj code Fj := h.get 0 rfl
  have h2 := (h.get 1 rfl).2 W code (fun q _ => rfl) h1
  refine ⟨h.bel, fun r hr => ?_, fun r hr q hq => ?_, ?_⟩
  · rcases List.mem_cons.1 hr with rfl | hr
    · exact h2
    · exact h.at_ r (List.mem_cons_of_mem _ (List.mem_cons_of_mem _ hr))
  · rcases List.mem_cons.1 hr with rfl | hr
    · rcases List.mem_append.1 (hG.mem_iff.1 hq) with hq | hq
      · exact h.olds 0 rfl q hq
      · exact h.olds 1 rfl q hq
    · exact h.old r (List.mem_cons_of_mem _ (List.mem_cons_of_mem _ hr)) q hq
  · have hd := h.dis
    have e2 : (List.map Res.F (Res.own kIns 92 vj code Fj :: Res.hole v vj l j x Fj F' G :: L)).flatten = (Fj ++ F') ++ (L.map Res.F).flatten := by
      simp [Res.own, Res.hole]
    rw [e2] at hd
    have e3 : (List.map Res.F (Res.own kFunc 89 v (l.set j ⟨x.params, x.locals, code⟩) G :: L)).flatten = G ++ (L.map Res.F).flatten := by
      simp [Res.own]
    rw [e3]
    exact ((hG.append_right _).nodup_iff).2 hd
end Go.Proofs.Yticlknijmnddeaa.Dat
