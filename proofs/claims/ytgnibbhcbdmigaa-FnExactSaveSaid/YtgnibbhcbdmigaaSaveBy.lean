/- A module as bytes, plainly. -/
import Derived.Test.YtgnibbhcbdmigaaNum
import Derived.Test.YtgnibbhcbdmigaaModOk
namespace Go.Proofs.Ytgnibbhcbdmigaa.Dat
open Go Go.RowKit Go.Proofs.Ytgnibbhcbdmigaa.Mem
set_option linter.unusedVariables false
set_option linter.unusedSimpArgs false
def numB (n : Int) : List Int := varB (zig n)
def chars (s : ByteArray) : List Int := s.data.toList.map (fun b => (b.toNat : Int))
def strBy (s : ByteArray) : List Int := numB s.size ++ chars s
def insBy (x : DIns) : List Int := numB x.op ++ numB x.a
def funcBy (x : DFunc) : List Int := numB x.params ++ (numB x.locals ++ (numB x.code.length ++ (x.code.map insBy).flatten))
def saveBy (t : List ByteArray) (l : List DFunc) : List Int := numB t.length ++ ((t.map strBy).flatten ++ (numB l.length ++ (l.map funcBy).flatten))
theorem varB_len : ∀ (d u : Nat), u < 128 ^ (d + 1) → (varB u).length ≤ d + 1 := by
  intro d
  induction d with
  | zero =>
    intro u h
    rw [varB_lt (by simpa using h)]
    simp
  | succ d ih =>
    intro u h
    by_cases hu : u < 128
    · rw [varB_lt hu]
      simp
    · rw [varB_ge hu, List.length_cons]
      have h2 : u / 128 < 128 ^ (d + 1) := by
        rw [Nat.div_lt_iff_lt_mul (by decide)]
        rwa [Nat.pow_succ] at h
      have := ih _ h2
      omega
theorem numB_len {n : Int} (h1 : -1099511627776 ≤ n) (h2 : n ≤ 1099511627776) : (numB n).length ≤ 6 := by
  refine varB_len 5 _ ?_
  have : (128 : Nat) ^ 6 = 4398046511104 := by decide
  rw [this]
  unfold zig
  split <;> omega
theorem flat_len {α : Type} (f : α → List Int) (c : Nat) : ∀ (l : List α), (∀ x ∈ l, (f x).length ≤ c) → ((l.map f).flatten).length ≤ l.length * c
  | [], _ => by simp
  | x :: l, h => by
    have h1 := h x (by simp)
    have h2 := flat_len f c l (fun y hy => h y (List.mem_cons_of_mem _ hy))
    rw [List.map_cons, List.flatten_cons, List.length_append, List.length_cons, Nat.succ_mul]
    omega
theorem flat_step {α : Type} (f : α → List Int) (l : List α) (k : Nat) (x : α) (hx : l[k]? = some x) : ((l.take (k + 1)).map f).flatten = ((l.take k).map f).flatten ++ f x := by
  have hk : k < l.length := (List.getElem?_eq_some_iff.1 hx).1
  have e : l[k] = x := (List.getElem?_eq_some_iff.1 hx).2
  rw [List.take_succ_eq_append_getElem hk, List.map_append, List.flatten_append, e]
  simp
end Go.Proofs.Ytgnibbhcbdmigaa.Dat
