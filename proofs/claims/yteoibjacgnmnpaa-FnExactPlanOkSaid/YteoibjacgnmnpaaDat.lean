/- The program's records as Lean structures, their kinds, and how an element of a row stands in memory. Written by a program (datgen.py). -/
import Derived.Test.YteoibjacgnmnpaaMem
import Derived.Test.YteoibjacgnmnpaaProg
namespace Go.Proofs.Yteoibjacgnmnpaa.Dat
open Go Go.RowKit Go.Proofs.Yteoibjacgnmnpaa.Mem
set_option linter.unusedVariables false
set_option linter.unusedSimpArgs false
theorem add_field (ad : Addr) (m j : Nat) (hj : 0 < j) : ad.add (m + j) = ⟨(ad.add m).block, (ad.add m).off + j, none⟩ := by
  unfold Addr.add
  by_cases hm : m = 0
  · subst hm
    simp [Nat.ne_of_gt hj]
  · simp [hm, Nat.add_assoc]
structure DIns where
  op : Int
  a : Int
def zIns : DIns := ⟨0, 0⟩
def kIns : Knd DIns := Knd.iso (Knd.pair (Knd.int .i64) (Knd.int .i64)) (fun x => (x.op, x.a))
/-- What is handed in meets this. -/
def VIns (x : DIns) : Prop := (Lit.int .i64 x.op).wf = true ∧ (Lit.int .i64 x.a).wf = true
theorem kIns_K {w : World} {x : DIns} {cs : List Value} : kIns.K w x cs ↔ cs = [.int .i64 x.op, .int .i64 x.a] := by
  constructor
  · rintro ⟨_, _, rfl, rfl, rfl⟩
    rfl
  · rintro rfl
    exact ⟨[.int .i64 x.op], [.int .i64 x.a], rfl, rfl, rfl⟩
theorem kIns_at {w : World} {A : Option Addr} {m : Nat} {xs : List DIns} (h : kIns.Row w A m xs) (i : Nat) (x : DIns) (hx : xs[i]? = some x) : ∃ (ad : Addr), A = some ad ∧ w.cell? (ad.add (i * 2)) = some (.int .i64 x.op) ∧ w.cell? ⟨(ad.add (i * 2)).block, (ad.add (i * 2)).off + 1, none⟩ = some (.int .i64 x.a) := by
  obtain ⟨ad, c, e, hK, hc0⟩ := h.get i x hx
  have hc : ∀ j u, c[j]? = some u → w.cell? (ad.add (i * 2 + j)) = some u := hc0
  obtain rfl := kIns_K.1 hK
  exact ⟨ad, e, hc 0 _ rfl, (by rw [← add_field _ _ 1 (by omega)]; exact hc 1 _ rfl)⟩

structure DFunc where
  params : Int
  locals : Int
  code : List DIns
def zFunc : DFunc := ⟨0, 0, []⟩
def kFunc : Knd DFunc := Knd.iso (Knd.pair (Knd.int .i64) (Knd.pair (Knd.int .i64) (Knd.slice 100 kIns))) (fun x => (x.params, x.locals, x.code))
/-- What is handed in meets this. -/
def VFunc (x : DFunc) : Prop := (Lit.int .i64 x.params).wf = true ∧ (Lit.int .i64 x.locals).wf = true ∧ (x.code.length ≤ maxLen ∧ ∀ y ∈ x.code, VIns y)
theorem kFunc_K {w : World} {x : DFunc} {cs : List Value} : kFunc.K w x cs ↔ ∃ (A2 : Option Addr) (c2 : Nat), cs = [.int .i64 x.params, .int .i64 x.locals, .slice A2 x.code.length c2] ∧ x.code.length ≤ c2 ∧ kIns.Row w A2 x.code.length x.code := by
  constructor
  · rintro ⟨_, _, rfl, rfl, ⟨_, _, rfl, rfl, ⟨A_code, c_code, rfl, hl_code, hr_code⟩⟩⟩
    exact ⟨A_code, c_code, rfl, hl_code, hr_code⟩
  · rintro ⟨A2, c2, rfl, h2, r2⟩
    exact ⟨[.int .i64 x.params], [.int .i64 x.locals, .slice A2 x.code.length c2], rfl, rfl, ⟨[.int .i64 x.locals], [.slice A2 x.code.length c2], rfl, rfl, ⟨A2, c2, rfl, h2, r2⟩⟩⟩
theorem kFunc_at {w : World} {A : Option Addr} {m : Nat} {xs : List DFunc} (h : kFunc.Row w A m xs) (i : Nat) (x : DFunc) (hx : xs[i]? = some x) : ∃ (ad : Addr) (A2 : Option Addr) (c2 : Nat), A = some ad ∧ w.cell? (ad.add (i * 3)) = some (.int .i64 x.params) ∧ w.cell? ⟨(ad.add (i * 3)).block, (ad.add (i * 3)).off + 1, none⟩ = some (.int .i64 x.locals) ∧ w.cell? ⟨(ad.add (i * 3)).block, (ad.add (i * 3)).off + 2, none⟩ = some (.slice A2 x.code.length c2) ∧ x.code.length ≤ c2 ∧ kIns.Row w A2 x.code.length x.code := by
  obtain ⟨ad, c, e, hK, hc0⟩ := h.get i x hx
  have hc : ∀ j u, c[j]? = some u → w.cell? (ad.add (i * 3 + j)) = some u := hc0
  obtain ⟨A2, c2, rfl, h2, r2⟩ := kFunc_K.1 hK
  exact ⟨ad, A2, c2, e, hc 0 _ rfl, (by rw [← add_field _ _ 1 (by omega)]; exact hc 1 _ rfl), (by rw [← add_field _ _ 2 (by omega)]; exact hc 2 _ rfl), h2, r2⟩
end Go.Proofs.Yteoibjacgnmnpaa.Dat
