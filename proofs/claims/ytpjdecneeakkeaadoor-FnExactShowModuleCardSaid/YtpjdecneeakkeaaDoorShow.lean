/- ShowModule, in the program and in the reference. -/
import Derived.Test.YtpjdecneeakkeaaDoorAcc
import Derived.Test.YtpjdecneeakkeaaDoorInsT
import Derived.Test.YtpjdecneeakkeaaDoorSpecT
import Derived.Test.YtpjdecneeakkeaaDoorK1
import Derived.Test.YtpjdecneeakkeaaDoorK3
namespace Go.Proofs.YtpjdecneeakkeaaDoor.Dat
open Go Go.RowKit Go.Proofs.YtpjdecneeakkeaaDoor.Mem
set_option linter.unusedVariables false
set_option linter.unusedSimpArgs false
def textLine (s : ByteArray) : List UInt8 := ([116, 101, 120, 116, 32, 34] ++ s.data.toList) ++ [34, 10]
def funcHead (x : DFunc) : List UInt8 := ((([102, 117, 110, 99, 32] ++ Lib.itoa x.params) ++ [32]) ++ Lib.itoa x.locals) ++ [10]
def insLine (x : DIns) : List UInt8 := ([32, 32] ++ insTextL x.op x.a) ++ [10]
def funcLines (x : DFunc) : List UInt8 := funcHead x ++ x.code.flatMap insLine
def showL (t : List ByteArray) (l : List DFunc) : List UInt8 := if modB t l then t.flatMap textLine ++ l.flatMap funcLines else []
theorem flatB_step {α : Type} {f : α → List UInt8} {l : List α} {k : Nat} {x : α} (h : l[k]? = some x) : (l.take (k + 1)).flatMap f = (l.take k).flatMap f ++ f x := by
  rw [List.take_add_one, h, List.flatMap_append]
  simp
theorem flatB_len {α : Type} {f : α → List UInt8} {c : Nat} : ∀ {l : List α}, (∀ x ∈ l, (f x).length ≤ c) → (l.flatMap f).length ≤ c * l.length
  | [], _ => by simp
  | x :: l, h => by
    have h1 := flatB_len (f := f) (l := l) (fun y hy => h y (by simp [hy]))
    have h2 := h x (by simp)
    rw [List.flatMap_cons, List.length_append, List.length_cons, Nat.mul_add]
    omega
/-- What a module that is ok keeps small. -/
structure SmallT (t : List ByteArray) (l : List DFunc) : Prop where
  tl : t.length ≤ 20
  ll : l.length ≤ 12
  ts : ∀ s ∈ t, s.size ≤ 60
  pl : ∀ x ∈ l, 0 ≤ x.params ∧ x.params ≤ 6 ∧ 0 ≤ x.locals ∧ x.locals ≤ 12 ∧ x.code.length ≤ 120
theorem small_of {t : List ByteArray} {l : List DFunc} (h : modB t l = true) : SmallT t l := by
  unfold modB at h
  simp only [Bool.and_eq_true, decide_eq_true_iff, btw_true] at h
  obtain ⟨⟨⟨h1, h2⟩, h3⟩, h4⟩ := h
  refine ⟨by omega, by omega, fun s hs => ?_, fun x hx => ?_⟩
  · have := List.all_eq_true.1 h3 s hs
    unfold textB at this
    simp only [Bool.and_eq_true, decide_eq_true_iff] at this
    exact this.1
  · have := List.all_eq_true.1 h4 x hx
    unfold funcB at this
    simp only [Bool.and_eq_true, btw_true] at this
    omega
theorem insTextL_len (op a : Int) (h : I64 a) : (insTextL op a).length ≤ 28 := by
  unfold insTextL
  split
  · unfold insTextN
    have h1 := wordB_len (op - 1).toNat
    have h2 := Lib.itoa_length_le a h.1 h.2
    split
    · omega
    · simp only [List.length_append, List.length_cons, List.length_nil]
      omega
  · simp
theorem textLine_len {s : ByteArray} (h : s.size ≤ 60) : (textLine s).length ≤ 68 := by
  have : s.data.toList.length = s.size := by rw [Array.length_toList]; rfl
  unfold textLine
  simp only [List.length_append, List.length_cons, List.length_nil]
  omega
theorem insLine_len {x : DIns} (h : I64 x.a) : (insLine x).length ≤ 31 := by
  have := insTextL_len x.op x.a h
  unfold insLine
  simp only [List.length_append, List.length_cons, List.length_nil]
  omega
theorem funcHead_len {x : DFunc} (h1 : I64 x.params) (h2 : I64 x.locals) : (funcHead x).length ≤ 50 := by
  have := Lib.itoa_length_le x.params h1.1 h1.2
  have := Lib.itoa_length_le x.locals h2.1 h2.2
  unfold funcHead
  simp only [List.length_append, List.length_cons, List.length_nil]
  omega
theorem funcLines_len {x : DFunc} (h1 : I64 x.params) (h2 : I64 x.locals) (h3 : ∀ y ∈ x.code, I64 y.a) (h4 : x.code.length ≤ 120) : (funcLines x).length ≤ 4000 := by
  have a1 := funcHead_len h1 h2
  have a2 := flatB_len (f := insLine) (c := 31) (l := x.code) (fun y hy => insLine_len (h3 y hy))
  unfold funcLines
  rw [List.length_append]
  have : 31 * x.code.length ≤ 31 * 120 := Nat.mul_le_mul_left _ h4
  omega
theorem modOkI2 (A B : Option Addr) (c d : Nat) (t : List ByteArray) (l : List DFunc) (w : World) (h : HasMod A B t l w) {r : Bool} (hq : modB t l = r) :
    Calls Tryd.prog 58 #[.agg #[.slice A t.length c, .slice B l.length d]] w fun e w' => e = .returned (.bool r) ∧ Below w.heap.size w w' := hq ▸ modOkI A B c d t l w h.ht h.hr h.htm h.hm h.htv h.hv
theorem modOk012 (A B : Option Addr) (c d : Nat) (t : List ByteArray) (l : List DFunc) (w : World) (h : HasMod A B t l w) {r : Bool} (hq : modB t l = r) :
    Calls Tryd.prog 55 #[.agg #[.slice A t.length c, .slice B l.length d]] w fun e w' => e = .returned (.bool r) ∧ Below w.heap.size w w' := hq ▸ modOk01 A B c d t l w h.ht h.hr h.htm h.hm h.htv h.hv
end Go.Proofs.YtpjdecneeakkeaaDoor.Dat
