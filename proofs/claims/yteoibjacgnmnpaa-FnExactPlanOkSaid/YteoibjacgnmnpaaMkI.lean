/- The laws' marks. Written by a program (markgen.py). -/
import Derived.Test.YteoibjacgnmnpaaMkT
import Derived.Test.YteoibjacgnmnpaaDat
namespace Go.Proofs.Yteoibjacgnmnpaa.Dat
open Go Go.RowKit Go.Proofs.Yteoibjacgnmnpaa.Mem
set_option linter.unusedVariables false
set_option linter.unusedSimpArgs false
def ctIns (x : DIns) : Nat := 2
def mkIns (k : Int) (x : DIns) : DIns := { op := k, a := k + 1 }
theorem kIns_Oi {w : World} {x : DIns} {cs : List Value} {F : List Nat} : kIns.O w x cs F ↔ cs = [.int .i64 x.op, .int .i64 x.a] ∧ F = [] := by
  constructor
  · rintro ⟨_, _, _, _, rfl, rfl, ⟨rfl, rfl⟩, ⟨rfl, rfl⟩⟩
    exact ⟨rfl, rfl⟩
  · rintro ⟨rfl, rfl⟩
    have h : kIns.O w x [.int .i64 x.op, .int .i64 x.a] (([] ++ [])) := ⟨[.int .i64 x.op], [.int .i64 x.a], [], [], rfl, by simp, ⟨rfl, rfl⟩, ⟨rfl, rfl⟩⟩
    simpa using h
set_option maxHeartbeats 4000000 in
set_option maxRecDepth 100000 in
theorem markIns (v : Value) (l : List DIns) (k : Int) (F : List Nat) (w : World) (h : kIns.Own 100 w v l F) (hnd : F.Nodup) (h0 : 0 ≤ k) (h1 : k + ctL ctIns l ≤ 1152921504606846976) (h2 : l.length ≤ 1099511627776) : Calls Try.prog 136 #[v, .int .i64 k] w fun e w' => e = .returned (.int .i64 (k + ctL ctIns l)) ∧ kIns.Own 100 w' v (mkL mkIns ctIns k l) F ∧ But F w w' := by
  by_cases hn : 0 < l.length
  rotate_left
  · have e : l = [] := List.eq_nil_of_length_eq_zero (by omega)
    subst e
    obtain ⟨A, c, rfl, _, _⟩ := h.row
    go_enter Try.func136, Try.ntmps136
    go_wp2
    go_loopw [1, 5] (fun u i wr => u = .int .i64 k ∧ i = .int .i64 0 ∧ w = wr) (fun _ i _ => 0)
    case atStart => exact ⟨rfl, rfl, rfl⟩
    case round =>
      obtain ⟨rfl, rfl, rfl⟩ := hrel
      go_wp2
      go_ret
      exact ⟨by simp [ctL], h, But.refl _ _⟩
  obtain ⟨g, c, Fs, inner, rfl, hFe, hA0⟩ := h.toAt hnd hn
  subst hFe
  clear h hnd
  go_enter Try.func136, Try.ntmps136
  go_wp2
  go_loopw [1, 5] (fun u i wr => ∃ (j : Nat) (inner : List Value), j ≤ l.length ∧ u = .int .i64 (k + ctL ctIns (l.take j)) ∧ i = .int .i64 j ∧ kIns.At 100 wr g l.length c (upto mkIns ctIns k l j) Fs inner ∧ But (g :: Fs.flatten) w wr) (fun _ i _ => l.length - (intOf i).toNat)
  case atStart => exact ⟨0, inner, by omega, by simp [ctL], rfl, by rw [upto_0]; exact hA0, But.refl _ _⟩
  case round =>
    clear hA0
    obtain ⟨j, inner, hj, rfl, rfl, hA, hB⟩ := hrel
    by_cases hlt : j < l.length
    · obtain ⟨x, hx⟩ := get_exU l j hlt
      have hset := Lib.hid (upto_set mkIns ctIns k l j x hx)
      have hct := Lib.hid (ctL_snoc ctIns l j x hx)
      have hle := ctL_mem ctIns l j x hx
      have hul : j < (upto mkIns ctIns k l j).length := by rw [upto_len]; exact hlt
      obtain ⟨Fj, hFj, hO, hc⟩ := hA.elem j x (upto_get mkIns ctIns k l j x hx)
      obtain ⟨hseg, hFn⟩ := kIns_Oi.1 hO
      subst hFn
      obtain ⟨K, hK⟩ : ∃ K, k + (ctL ctIns (l.take j) : Int) = K := ⟨_, rfl⟩
      have hK0 : 0 ≤ K := by omega
      have hK1 : K + ctIns x ≤ 1152921504606846976 := by omega
      rw [hK]
      have HK := Lib.hid hK
      have HX := Lib.hid hx
      unfold ctIns at hK1
      have c0 : wr.cell? ⟨g, j * 2, none⟩ = some (.int .i64 (x.op)) := hc 0 _ (by rw [hseg]; rfl)
      have f0 : wr.frozen? ⟨g, j * 2, none⟩ = false := hA.free _
      have c1 : wr.cell? ⟨g, j * 2 + 1, none⟩ = some (.int .i64 (x.a)) := hc 1 _ (by rw [hseg]; rfl)
      have f1 : wr.frozen? ⟨g, j * 2 + 1, none⟩ = false := hA.free _
      have hP1 := hA.put j 0 (by skip; exact hul) (by decide) (.int .i64 (K)) ({ op := K, a := x.a } : DIns) [] hFj (by rw [hseg]; exact (kIns_Oi.2 ⟨rfl, rfl⟩))
      have hseg1 := (Knd.At.seg_set_same (d := kIns) inner j 0 (.int .i64 (K)) (by decide)).trans (congrArg (fun z => z.set 0 (.int .i64 (K))) hseg)
      have hP2 := hP1.put j 1 (by rw [List.length_set]; exact hul) (by decide) (.int .i64 (K + 1)) ({ op := K, a := K + 1 } : DIns) [] hFj (by rw [hseg1]; exact (kIns_Oi.2 ⟨rfl, rfl⟩))
      rw [List.set_set] at hP2
      have hseg2 := (Knd.At.seg_set_same (d := kIns) _ j 1 (.int .i64 (K + 1)) (by decide)).trans (congrArg (fun z => z.set 1 (.int .i64 (K + 1))) hseg1)
      have HP := Lib.hid hP2
      clear hK hle hO hc hP1 hP2 hA hseg1 hseg2
      go_wp2
      go_roundw
      case rel => exact ⟨j + 1, _, by omega, by rw [hct.out, ← HK.out]; simp [ctIns]; omega, by go_num, by rw [← hset.out, HK.out]; exact HP.out, (Knd.At.but_put (Knd.At.but_put hB _ _) _ _)⟩
      case measure => simp [intOf]; omega
    · obtain rfl : j = l.length := by omega
      rw [upto_all] at hA
      rw [List.take_length]
      go_wp2
      go_ret
      exact ⟨rfl, hA.own, hB⟩
def ctFunc (x : DFunc) : Nat := 2 + ctL ctIns x.code
def mkFunc (k : Int) (x : DFunc) : DFunc := { params := k, locals := k + 1, code := mkL mkIns ctIns (k + 1 + 1) x.code }
theorem kFunc_Oi {w : World} {x : DFunc} {cs : List Value} {F : List Nat} : kFunc.O w x cs F ↔ ∃ (v2 : Value) (F2 : List Nat), cs = [.int .i64 x.params, .int .i64 x.locals, v2] ∧ F = F2 ∧ kIns.Own 100 w v2 x.code F2 := by
  constructor
  · rintro ⟨_, _, _, _, rfl, rfl, ⟨rfl, rfl⟩, ⟨_, _, _, _, rfl, rfl, ⟨rfl, rfl⟩, ⟨v2, rfl, o2⟩⟩⟩
    exact ⟨v2, _, rfl, by simp, o2⟩
  · rintro ⟨v2, F2, rfl, rfl, o2⟩
    have h : kFunc.O w x [.int .i64 x.params, .int .i64 x.locals, v2] (([] ++ ([] ++ F))) := ⟨[.int .i64 x.params], [.int .i64 x.locals, v2], [], ([] ++ F), rfl, by simp, ⟨rfl, rfl⟩, ⟨[.int .i64 x.locals], [v2], [], F, rfl, by simp, ⟨rfl, rfl⟩, ⟨v2, rfl, o2⟩⟩⟩
    simpa using h
end Go.Proofs.Yteoibjacgnmnpaa.Dat
