/- Rows of whole numbers in the laws: marked, held and compared as rows of records are. -/
import Derived.Test.YthinhlcfpaaldaaGreatK4
namespace Go.Proofs.YthinhlcfpaaldaaGreat.Dat
open Go Go.RowKit Go.Proofs.YthinhlcfpaaldaaGreat.Mem
set_option linter.unusedVariables false
set_option linter.unusedSimpArgs false
theorem mkL_int : ∀ (l : List Int) (k : Int), mkL (fun k _ => k) (fun _ => 1) k l = mkI k l
  | [], _ => rfl
  | x :: l, k => by
    simp only [mkL, mkI]
    rw [mkL_int l]
    rfl
theorem ctL_int (l : List Int) : ctL (fun _ => 1) l = l.length := by
  have := ctL_const 1 l
  omega
theorem eqIntS_c (A B : Option Addr) (c c' : Nat) (l : List Int) (w : World) (hr : (Knd.int .i64).Row w A l.length l) (hr' : (Knd.int .i64).Row w B l.length l) : Calls Tryz.prog 36 #[.slice A l.length c, .slice B l.length c'] w fun e w' => e = .returned (.bool true) ∧ Below w.heap.size w w' := eqIntS A B c c' l w hr hr'
theorem markIntS_c (v : Value) (l : List Int) (k : Int) (F : List Nat) (w : World) (h : (Knd.int .i64).Own 3 w v l F) (hnd : F.Nodup) (h0 : 0 ≤ k) (h1 : k + ctL (fun _ => 1) l ≤ 1099511627776) (hm : l.length ≤ 1099511627776) : Calls Tryz.prog 38 #[v, .int .i64 k] w fun e w' => e = .returned (.int .i64 (k + ctL (fun _ => 1) l)) ∧ (Knd.int .i64).Own 3 w' v (mkL (fun k _ => k) (fun _ => 1) k l) F ∧ But F w w' := by
  rw [ctL_int, mkL_int]
  exact markI v l k F w h h0 (by rw [ctL_int] at h1; omega) (by omega)
theorem heldIntS_c (A : Option Addr) (c : Nat) (l : List Int) (k : Int) (w : World) (hr : (Knd.int .i64).Row w A l.length (mkL (fun k _ => k) (fun _ => 1) k l)) (h0 : 0 ≤ k) (h1 : k + ctL (fun _ => 1) l ≤ 1099511627776) (hm : l.length ≤ 1099511627776) : Calls Tryz.prog 39 #[.slice A l.length c, .int .i64 k] w fun e w' => e = .returned (.int .i64 (k + ctL (fun _ => 1) l)) ∧ Below w.heap.size w w' := by
  rw [ctL_int]
  rw [mkL_int] at hr
  refine (heldI A c l k w hr h0 (by rw [ctL_int] at h1; omega) (by omega)).mono ?_
  rintro e w' ⟨rfl, rfl⟩
  exact ⟨rfl, Below.refl _ _⟩
end Go.Proofs.YthinhlcfpaaldaaGreat.Dat
