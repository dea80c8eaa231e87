/- A writer among resources. -/
import Derived.Test.YthinhlcfpaaldaaGreatWrI
namespace Go.Proofs.YthinhlcfpaaldaaGreat.Dat
open Go Go.RowKit Go.Proofs.YthinhlcfpaaldaaGreat.Mem
set_option linter.unusedVariables false
set_option linter.unusedSimpArgs false
end Go.Proofs.YthinhlcfpaaldaaGreat.Dat
namespace Go.Proofs.YthinhlcfpaaldaaGreat.Mem
open Go Go.RowKit Go.Proofs.YthinhlcfpaaldaaGreat.Dat
theorem St.mkWr {w0 W : World} {L : List Res} {g : Nat} {t e : TypeId} (h : St w0 (Res.box g (.cells #[.slice none 0 0] t (0, 0)) :: L) W) : St w0 (Res.wr t g e (.slice none 0 0) [] [] :: L) W := h.asF (r' := Res.wr t g e (.slice none 0 0) [] []) 0 rfl ⟨h.get 0 rfl, Knd.Own.nil _ _ _⟩ rfl
theorem St.outWr {w0 W : World} {L : List Res} {g : Nat} {t e : TypeId} {v : Value} {ys : List Int} {F : List Nat} (h : St w0 (Res.wr t g e v ys F :: L) W) : NewRow (Knd.int .i64) e ys w0 (.returned v) W := h.unpair2.outRow 1 rfl
theorem St.wrCell {w0 W : World} {L : List Res} {g : Nat} {t e : TypeId} {v : Value} {ys : List Int} {F : List Nat} (h : St w0 (Res.wr t g e v ys F :: L) W) : W.cell? ⟨g, 0, none⟩ = some v := (Tn.of h 0 rfl).wcell
/-- The first one laid behind the third. -/
theorem St.third {w0 W : World} {L : List Res} {a b c : Res} (h : St w0 (a :: b :: c :: L) W) : St w0 (a :: c :: b :: L) W := h.perm (List.Perm.cons _ (List.Perm.swap _ _ _))
theorem St.second {w0 W : World} {L : List Res} {a b : Res} (h : St w0 (a :: b :: L) W) : St w0 (b :: a :: L) W := h.perm (List.Perm.swap _ _ _)
end Go.Proofs.YthinhlcfpaaldaaGreat.Mem
namespace Go.Proofs.YthinhlcfpaaldaaGreat.Dat
open Go Go.RowKit Go.Proofs.YthinhlcfpaaldaaGreat.Mem
end Go.Proofs.YthinhlcfpaaldaaGreat.Dat
