/- The reference's look at one op. -/
import Derived.Test.YthinhlcfpaaldaaGreatFk3
namespace Go.Proofs.YthinhlcfpaaldaaGreat.Dat
open Go Go.RowKit Go.Proofs.YthinhlcfpaaldaaGreat.Mem
set_option linter.unusedVariables false
set_option linter.unusedSimpArgs false
theorem needX {w0 W : World} {L : List Res} {r : Res} {A B A4 A5 : Option Addr} {c0 d0 c4 c5 : Nat} {t : List ByteArray} {l : List DFunc} {c : DFast} {i g : Nat} {x : Bool} (hl : i < L.length) (hS : St w0 (r :: L.set i (kbox A B A4 A5 c0 d0 c4 c5 t l c g x)) W) (ok : Bool) :
    Calls Tryz.prog 280 #[.pointer (some ⟨g, 0, none⟩), .bool ok] W fun e w' => e = .returned (.tuple #[]) ∧ St w0 (r :: L.set i (kbox A B A4 A5 c0 d0 c4 c5 t l c g (x || !(ok)))) w' :=
  (need10 A B A4 A5 c0 d0 c4 c5 t l c hS (i + 1) (by rw [List.getElem?_cons_succ, List.getElem?_set_self hl]) ok).mono fun e w' h => ⟨h.1, by have h2 := h.2; rwa [List.set_cons_succ, List.set_set] at h2⟩
theorem valX {w0 W : World} {L : List Res} {r : Res} {A B A4 A5 : Option Addr} {c0 d0 c4 c5 : Nat} {t : List ByteArray} {l : List DFunc} {c : DFast} {i g : Nat} {x : Bool} (hl : i < L.length) (hS : St w0 (r :: L.set i (kbox A B A4 A5 c0 d0 c4 c5 t l c g x)) W) (q : Int) (h1 : 0 ≤ c.vals) (h2 : c.vals ≤ 400) :
    Calls Tryz.prog 279 #[.pointer (some ⟨g, 0, none⟩), .int .i64 q] W fun e w' => e = .returned (.tuple #[]) ∧ St w0 (r :: L.set i (kbox A B A4 A5 c0 d0 c4 c5 t l c g (x || !(btw q 0 (c.vals - 1))))) w' :=
  (val10 A B A4 A5 c0 d0 c4 c5 t l c hS (i + 1) (by rw [List.getElem?_cons_succ, List.getElem?_set_self hl]) q h1 h2).mono fun e w' h => ⟨h.1, by have h2 := h.2; rwa [List.set_cons_succ, List.set_set] at h2⟩
theorem numX {w0 W : World} {L : List Res} {r : Res} {A B A4 A5 : Option Addr} {c0 d0 c4 c5 : Nat} {t : List ByteArray} {l : List DFunc} {c : DFast} {i g : Nat} {x : Bool} (hl : i < L.length) (hS : St w0 (r :: L.set i (kbox A B A4 A5 c0 d0 c4 c5 t l c g x)) W) (q : Int) (h1 : 0 ≤ c.nums) (h2 : c.nums ≤ 400) :
    Calls Tryz.prog 281 #[.pointer (some ⟨g, 0, none⟩), .int .i64 q] W fun e w' => e = .returned (.tuple #[]) ∧ St w0 (r :: L.set i (kbox A B A4 A5 c0 d0 c4 c5 t l c g (x || !(btw q 0 (c.nums - 1))))) w' :=
  (num10 A B A4 A5 c0 d0 c4 c5 t l c hS (i + 1) (by rw [List.getElem?_cons_succ, List.getElem?_set_self hl]) q h1 h2).mono fun e w' h => ⟨h.1, by have h2 := h.2; rwa [List.set_cons_succ, List.set_set] at h2⟩
theorem zeroX {w0 W : World} {L : List Res} {r : Res} {A B A4 A5 : Option Addr} {c0 d0 c4 c5 : Nat} {t : List ByteArray} {l : List DFunc} {c : DFast} {i g : Nat} {x : Bool} (hl : i < L.length) (hS : St w0 (r :: L.set i (kbox A B A4 A5 c0 d0 c4 c5 t l c g x)) W) (q : Int) :
    Calls Tryz.prog 277 #[.pointer (some ⟨g, 0, none⟩), .int .i64 q] W fun e w' => e = .returned (.tuple #[]) ∧ St w0 (r :: L.set i (kbox A B A4 A5 c0 d0 c4 c5 t l c g (x || !(decide (q = 0))))) w' :=
  (zero10 A B A4 A5 c0 d0 c4 c5 t l c hS (i + 1) (by rw [List.getElem?_cons_succ, List.getElem?_set_self hl]) q).mono fun e w' h => ⟨h.1, by have h2 := h.2; rwa [List.set_cons_succ, List.set_set] at h2⟩
theorem exitX {w0 W : World} {L : List Res} {r : Res} {A B A4 A5 : Option Addr} {c0 d0 c4 c5 : Nat} {t : List ByteArray} {l : List DFunc} {c : DFast} {i g : Nat} {x : Bool} (hl : i < L.length) (hS : St w0 (r :: L.set i (kbox A B A4 A5 c0 d0 c4 c5 t l c g x)) W) (q : Int) (h1 : c.exits.length ≤ 1500) :
    Calls Tryz.prog 276 #[.pointer (some ⟨g, 0, none⟩), .int .i64 q] W fun e w' => e = .returned (.tuple #[]) ∧ St w0 (r :: L.set i (kbox A B A4 A5 c0 d0 c4 c5 t l c g (x || !(btw q 0 ((c.exits.length : Int) - 1))))) w' :=
  (exit10 A B A4 A5 c0 d0 c4 c5 t l c hS (i + 1) (by rw [List.getElem?_cons_succ, List.getElem?_set_self hl]) q h1).mono fun e w' h => ⟨h.1, by have h2 := h.2; rwa [List.set_cons_succ, List.set_set] at h2⟩
theorem goalX {w0 W : World} {L : List Res} {r : Res} {A B A4 A5 : Option Addr} {c0 d0 c4 c5 : Nat} {t : List ByteArray} {l : List DFunc} {c : DFast} {i g : Nat} {x : Bool} (hl : i < L.length) (hS : St w0 (r :: L.set i (kbox A B A4 A5 c0 d0 c4 c5 t l c g x)) W) (k : Nat) (tz : Int) (hn : c.ops.length ≤ 1500) (r4 : kFOp.Row w0 A4 c.ops.length c.ops) :
    Calls Tryz.prog 282 #[.pointer (some ⟨g, 0, none⟩), .int .i64 k, .int .i64 tz] W fun e w' => e = .returned (.tuple #[]) ∧ St w0 (r :: L.set i (kbox A B A4 A5 c0 d0 c4 c5 t l c g (x || !(btw tz 0 ((c.ops.length : Int) - 1) && backB c.ops k tz)))) w' :=
  (goal10 A B A4 A5 c0 d0 c4 c5 t l c hS (i + 1) (by rw [List.getElem?_cons_succ, List.getElem?_set_self hl]) k tz hn r4).mono fun e w' h => ⟨h.1, by have h2 := h.2; rwa [List.set_cons_succ, List.set_set] at h2⟩
theorem noneX {w0 W : World} {L : List Res} {r : Res} {A B A4 A5 : Option Addr} {c0 d0 c4 c5 : Nat} {t : List ByteArray} {l : List DFunc} {c : DFast} {i g : Nat} {x : Bool} (hl : i < L.length) (hS : St w0 (r :: L.set i (kbox A B A4 A5 c0 d0 c4 c5 t l c g x)) W) (v : DValue) :
    Calls Tryz.prog 278 #[.pointer (some ⟨g, 0, none⟩), .agg #[.int .i64 v.k, .int .i64 v.n, .string v.s]] W fun e w' => e = .returned (.tuple #[]) ∧ St w0 (r :: L.set i (kbox A B A4 A5 c0 d0 c4 c5 t l c g (x || !(nilV v)))) w' :=
  (none10 A B A4 A5 c0 d0 c4 c5 t l c hS (i + 1) (by rw [List.getElem?_cons_succ, List.getElem?_set_self hl]) v).mono fun e w' h => ⟨h.1, by have h2 := h.2; rwa [List.set_cons_succ, List.set_set] at h2⟩
theorem kfactsX {w0 W : World} {L : List Res} {r : Res} {A B A4 A5 : Option Addr} {c0 d0 c4 c5 : Nat} {t : List ByteArray} {l : List DFunc} {c : DFast} {i g : Nat} {x : Bool} (hl : i < L.length) (hS : St w0 (r :: L.set i (kbox A B A4 A5 c0 d0 c4 c5 t l c g x)) W) : (∀ j, W.cell? ⟨g, j, none⟩ = (#[.slice A t.length c0, .slice B l.length d0, .int .i64 c.fn, .int .i64 c.entry, .int .i64 c.vals, .int .i64 c.nums, .slice A4 c.ops.length c4, .slice A5 c.exits.length c5, .bool x] : Array Value)[j]?) ∧ (∀ j, W.frozen? ⟨g, j, none⟩ = false) ∧ g < W.heap.size := by
  have hi : (r :: L.set i (kbox A B A4 A5 c0 d0 c4 c5 t l c g x))[i + 1]? = some (kbox A B A4 A5 c0 d0 c4 c5 t l c g x) := by rw [List.getElem?_cons_succ, List.getElem?_set_self hl]
  exact ⟨hS.cell (i + 1) hi, hS.free (i + 1) hi, hS.blt (i + 1) hi⟩
theorem finX {w0 W : World} {L : List Res} {A B A4 A5 : Option Addr} {c0 d0 c4 c5 : Nat} {t : List ByteArray} {l : List DFunc} {c : DFast} {i g : Nat} {x y : Bool} (h : St w0 (L.set i (kbox A B A4 A5 c0 d0 c4 c5 t l c g x)) W) (e : x = y) : St w0 (L.set i (kbox A B A4 A5 c0 d0 c4 c5 t l c g y)) W := e ▸ h
theorem badX {w0 W : World} {L : List Res} {r : Res} {A B A4 A5 : Option Addr} {c0 d0 c4 c5 : Nat} {t : List ByteArray} {l : List DFunc} {c : DFast} {i g : Nat} {x : Bool} (hl : i < L.length) (hS : St w0 (r :: L.set i (kbox A B A4 A5 c0 d0 c4 c5 t l c g x)) W) : St w0 (L.set i (kbox A B A4 A5 c0 d0 c4 c5 t l c g true)) (W.setCell ⟨g, 8, none⟩ (.bool true)) := by
  have h9 := (hS.set (i + 1) (by rw [List.getElem?_cons_succ, List.getElem?_set_self hl]; rfl) 8 (.bool true))
  rw [List.set_cons_succ, List.set_set] at h9
  exact h9.drop
end Go.Proofs.YthinhlcfpaaldaaGreat.Dat
