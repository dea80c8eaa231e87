/- Regions that draw their order and whose last store writes what their own loads read, walked by hand: as XReg, over WLast. -/
import Derived.Test.YticlknijmnddeaaK1
import Derived.Test.YticlknijmnddeaaWLast
namespace Go.Proofs.Yticlknijmnddeaa.Mem
open Go Go.RowKit Go.Proofs.YticlknijmnddeaaW.PrintLast
set_option linter.unusedVariables false
set_option linter.unusedSimpArgs false
section
variable {P : Program} {L : List Oper} {Q : Exit → Act → World → Prop} {md : Region.Mode} {S : World → Prop} {ds : List Nat} {fuel : Nat} {listed : Array Bool} {a : Act} {w : World}
def regOkL (md : Region.Mode) (L : List Oper) (ds : List Nat) (listed : Array Bool) (i : Nat) : Bool := Region.noSelect L.toArray && (Region.free md L.toArray listed i && ((Region.ready md L.toArray listed).contains i && (Region.closedB md L.toArray listed && Region.lastB md L.toArray listed ds i)))
theorem regOkL_of {i : Nat} (h : regOkL md L ds listed i = true) : Region.noSelect L.toArray = true ∧ Region.free md L.toArray listed i = true ∧ (Region.ready md L.toArray listed).contains i = true ∧ Region.closedB md L.toArray listed = true ∧ Region.lastB md L.toArray listed ds i = true := by
  unfold regOkL at h
  rw [Bool.and_eq_true, Bool.and_eq_true, Bool.and_eq_true, Bool.and_eq_true] at h
  exact h
theorem regWL (i : Nat) {o : Oper} {v : Value} (hi : L[i]? = some o) (hw : Region.wanted o (yielded L.toArray a.tmps) = true) (hk : regOkL md L ds listed i = true)
    (hQ : ∀ c a w, Q (.panic c) (a.put o.dst v) w → Q (.panic c) a w) (hv : ∀ w, S w → (execOp a.eval o).run P w = .ok (.value v) w) (hS : S w)
    (h : wpAnyLast P md L.toArray Q S ds fuel (listed.setIfInBounds i true) (a.put o.dst v) w) : wpAnyLast P md L.toArray Q S ds (fuel + 1) listed a w :=
  wpAnyLast_take (by simpa using hi) (regOkL_of hk).1 (regOkL_of hk).2.1 (regOkL_of hk).2.2.1 (regOkL_of hk).2.2.2.1 (regOkL_of hk).2.2.2.2 hQ (Or.inl ⟨hw, hv⟩) hS h
theorem regUL (i : Nat) {o : Oper} (hi : L[i]? = some o) (hw : Region.wanted o (yielded L.toArray a.tmps) = false) (hk : regOkL md L ds listed i = true)
    (hQ : ∀ c a w, Q (.panic c) (a.put o.dst undef) w → Q (.panic c) a w) (hS : S w)
    (h : wpAnyLast P md L.toArray Q S ds fuel (listed.setIfInBounds i true) (a.put o.dst undef) w) : wpAnyLast P md L.toArray Q S ds (fuel + 1) listed a w :=
  wpAnyLast_take (by simpa using hi) (regOkL_of hk).1 (regOkL_of hk).2.1 (regOkL_of hk).2.2.1 (regOkL_of hk).2.2.2.1 (regOkL_of hk).2.2.2.2 hQ (Or.inr ⟨hw, rfl⟩) hS h
theorem regCL (i : Nat) {o : Oper} (hi : L[i]? = some o) (hr : Region.ready md L.toArray listed = [i]) (hd : i ∉ ds) (hw : Region.wanted o (yielded L.toArray a.tmps) = true)
    (h : ∀ K' : Act → World → Prop, Shut (∀ a w, S w → (S w → wpAnyLast P md L.toArray Q S ds fuel (listed.setIfInBounds i true) a w) → K' a w) → Oper.wp P o a w K' Q) : wpAnyLast P md L.toArray Q S ds (fuel + 1) listed a w :=
  wpAnyLast_ready hr (by simp) (AllReadyL.cons (by simpa using hi) hd (fun K hK => by rw [if_pos hw]; exact h K hK) AllReadyL.nil)
theorem regNL (i : Nat) {o : Oper} (hi : L[i]? = some o) (hw : Region.wanted o (yielded L.toArray a.tmps) = false) (hr : Region.ready md L.toArray listed = [i]) (hd : i ∉ ds) (hS : S w)
    (h : wpAnyLast P md L.toArray Q S ds fuel (listed.setIfInBounds i true) (a.put o.dst undef) w) : wpAnyLast P md L.toArray Q S ds (fuel + 1) listed a w :=
  wpAnyLast_ready hr (by simp) (AllReadyL.cons (by simpa using hi) hd (fun K hK => by rw [hw]; exact hK.out _ _ hS (fun _ => h)) AllReadyL.nil)
/-- The last one: behind it nothing is shown. -/
theorem regLL (i : Nat) {o : Oper} (hi : L[i]? = some o) (hr : Region.ready md L.toArray listed = [i]) (hd : i ∈ ds) (hw : Region.wanted o (yielded L.toArray a.tmps) = true)
    (h : ∀ K' : Act → World → Prop, Shut (∀ a w, wpAnyLast P md L.toArray Q S ds fuel (listed.setIfInBounds i true) a w → K' a w) → Oper.wp P o a w K' Q) : wpAnyLast P md L.toArray Q S ds (fuel + 1) listed a w :=
  wpAnyLast_ready hr (by simp) (AllReadyL.cons_last (by simpa using hi) hd (fun K hK => by rw [if_pos hw]; exact h K hK) AllReadyL.nil)
theorem regStartL {id : Nat} {a : Act} {w : World} (ds : List Nat) (hm : P.follows .mixedOrders = true) (hS : S w.drew)
    (h : S w.drew → wpAnyLast P .any L.toArray Q S ds L.length (Array.replicate L.length false) a w.drew) : (Code.region id L.toArray true).wp P Q a w :=
  wp_region_last_drew hm hS (by simpa using h)
theorem regDoneL {listed : Array Bool} {a : Act} {w : World} (hr : Region.ready md L.toArray listed = []) (h : Q .normal a w) : wpAnyLast P md L.toArray Q S ds fuel listed a w := wpAnyLast_done hr h fuel
end
end Go.Proofs.Yticlknijmnddeaa.Mem
