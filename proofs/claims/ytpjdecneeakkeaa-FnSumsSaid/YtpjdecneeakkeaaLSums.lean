/- The walk of FnSums. Written by a program (sumslaw.py). -/
import Derived.Test.YtpjdecneeakkeaaSumP
import Derived.Test.YtpjdecneeakkeaaDrawA
import Derived.Test.YtpjdecneeakkeaaK3
namespace Go.Proofs.Ytpjdecneeakkeaa.Dat
open Go Go.RowKit Go.Proofs.Ytpjdecneeakkeaa.Mem Go.Proofs.Ytpjdecneeakkeaa.Val
set_option linter.unusedVariables false
set_option linter.unusedSimpArgs false
theorem lessV_n (a b : V) : (lessV a b).n = 0 ∨ (lessV a b).n = 1 := by
  unfold lessV
  split
  · unfold boolV b01; dsimp only; split <;> simp
  · split
    · unfold boolV b01; dsimp only; split <;> simp
    · exact .inl rfl
theorem sameV_n (a b : V) : (sameV a b).n = 0 ∨ (sameV a b).n = 1 := by
  unfold sameV boolV b01; dsimp only; split <;> simp
theorem bigC (A : Option Addr) (c : Nat) (xs : List Int) (w : World) (h : xs.length ≤ 1048576) : Calls Try.prog 12 #[.slice A xs.length c] w fun e w' => e = .returned (.bool false) ∧ Below w.heap.size w w' := by
  go_enter Try.func12, Try.ntmps12
  go_wp2
  go_ret
  exact ⟨Mem.ret_bool (by simp; omega), Below.refl _ _⟩
set_option maxHeartbeats 16000000 in
set_option maxRecDepth 100000 in
theorem lawSums1 (xs : List Int) (w : World) {A : Option Addr} {c : Nat} (hr : (Knd.int .u8).Row w A xs.length xs) (hlen : xs.length ≤ 1048576) (hbig : xs.length ≤ 1048576) (hby : ∀ b ∈ xs, 0 ≤ b ∧ b < 256) : Calls Try.prog 3 #[.slice A xs.length c] w fun e w' => e = .returned (.bool true) ∧ Below w.heap.size w w' := by
  have hS := St.start w
  go_enter Try.func3, Try.ntmps3
  go_wp2_with fail
  refine (bigC A c xs _ hbig).mono ?_
  rintro e w1 ⟨rfl, hb⟩
  replace hS := hS.step hb
  clear hb
  go_wp2_with fail
  refine (drawC A c xs _ (hr.below hS.bel) hlen hby).mono ?_
  rintro e w2 ⟨⟨ak, an, az⟩, ⟨bk, bn, bz⟩, rfl, ha, hb0, hb⟩
  dsimp only
  replace hS := hS.step hb
  clear hb
  have sa : az.size ≤ 60 := ha.s
  have sb : bz.size ≤ 60 := hb0.s
  obtain ⟨X, hX⟩ : ∃ z : V, addV ⟨ak, an, az⟩ ⟨bk, bn, bz⟩ = z := ⟨_, rfl⟩
  obtain ⟨Y, hY⟩ : ∃ z : V, addV ⟨bk, bn, bz⟩ ⟨ak, an, az⟩ = z := ⟨_, rfl⟩
  obtain ⟨P, hP⟩ : ∃ z : V, arV (· * ·) ⟨ak, an, az⟩ ⟨bk, bn, bz⟩ = z := ⟨_, rfl⟩
  obtain ⟨D, hD⟩ : ∃ z : V, arV (· - ·) ⟨X.k, X.n, X.s⟩ ⟨bk, bn, bz⟩ = z := ⟨_, rfl⟩
  obtain ⟨L, hL⟩ : ∃ z : V, lessV ⟨ak, an, az⟩ ⟨bk, bn, bz⟩ = z := ⟨_, rfl⟩
  obtain ⟨G, hG⟩ : ∃ z : V, lessV ⟨bk, bn, bz⟩ ⟨ak, an, az⟩ = z := ⟨_, rfl⟩
  obtain ⟨M, hM⟩ : ∃ z : V, sameV ⟨ak, an, az⟩ ⟨bk, bn, bz⟩ = z := ⟨_, rfl⟩
  obtain ⟨s, hs⟩ : ∃ z : Int, addT ⟨ak, an, az⟩ ⟨bk, bn, bz⟩ = z := ⟨_, rfl⟩
  obtain ⟨v, hv⟩ : ∃ z : Int, arT (· * ·) ⟨ak, an, az⟩ ⟨bk, bn, bz⟩ = z := ⟨_, rfl⟩
  obtain ⟨e0, he⟩ : ∃ z : Int, arT (· - ·) ⟨X.k, X.n, X.s⟩ ⟨bk, bn, bz⟩ = z := ⟨_, rfl⟩
  obtain ⟨t, ht⟩ : ∃ z : Int, lessT ⟨ak, an, az⟩ ⟨bk, bn, bz⟩ = z := ⟨_, rfl⟩
  have CX : ∀ w, Calls Try.prog 14 #[.agg #[.int .i64 ak, .int .i64 an, .string az], .agg #[.int .i64 bk, .int .i64 bn, .string bz]] w fun e w' => e = .returned (.tuple #[.agg #[.int .i64 X.k, .int .i64 X.n, .string X.s], .int .i64 s]) ∧ Below w.heap.size w w' := fun w => by have h9 := addI ak an az bk bn bz w (by omega) (by omega) (by omega); rw [hX, hs] at h9; exact h9
  have CY : ∀ w, Calls Try.prog 14 #[.agg #[.int .i64 bk, .int .i64 bn, .string bz], .agg #[.int .i64 ak, .int .i64 an, .string az]] w fun e w' => e = .returned (.tuple #[.agg #[.int .i64 Y.k, .int .i64 Y.n, .string Y.s], .int .i64 s]) ∧ Below w.heap.size w w' := fun w => by have h9 := addI bk bn bz ak an az w (by omega) (by omega) (by omega); rw [addT_comm ⟨ak, an, az⟩ ⟨bk, bn, bz⟩, hY, hs] at h9; exact h9
  have CP : ∀ w, Calls Try.prog 15 #[.agg #[.int .i64 ak, .int .i64 an, .string az], .agg #[.int .i64 bk, .int .i64 bn, .string bz]] w fun e w' => e = .returned (.tuple #[.agg #[.int .i64 P.k, .int .i64 P.n, .string P.s], .int .i64 v]) ∧ Below w.heap.size w w' := fun w => by have h9 := mulI ak an az bk bn bz w; rw [hP, hv] at h9; exact h9
  have CQ : ∀ w, Calls Try.prog 15 #[.agg #[.int .i64 bk, .int .i64 bn, .string bz], .agg #[.int .i64 ak, .int .i64 an, .string az]] w fun e w' => e = .returned (.tuple #[.agg #[.int .i64 P.k, .int .i64 P.n, .string P.s], .int .i64 v]) ∧ Below w.heap.size w w' := fun w => by have h9 := mulI bk bn bz ak an az w; rw [mulV_comm ⟨ak, an, az⟩ ⟨bk, bn, bz⟩, mulT_comm ⟨ak, an, az⟩ ⟨bk, bn, bz⟩, hP, hv] at h9; exact h9
  have CD : ∀ w, Calls Try.prog 16 #[.agg #[.int .i64 X.k, .int .i64 X.n, .string X.s], .agg #[.int .i64 bk, .int .i64 bn, .string bz]] w fun e w' => e = .returned (.tuple #[.agg #[.int .i64 D.k, .int .i64 D.n, .string D.s], .int .i64 e0]) ∧ Below w.heap.size w w' := fun w => by have h9 := subI X.k X.n X.s bk bn bz w; rw [hD, he] at h9; exact h9
  have DX : ∀ w, Calls Try.prog 17 #[.agg #[.int .i64 ak, .int .i64 an, .string az], .agg #[.int .i64 bk, .int .i64 bn, .string bz]] w fun e w' => e = .returned (.tuple #[.agg #[.int .i64 X.k, .int .i64 X.n, .string X.s], .int .i64 s]) ∧ Below w.heap.size w w' := fun w => by have h9 := add04 ak an az bk bn bz w (by omega) (by omega); rw [hX, hs] at h9; exact h9
  have DP : ∀ w, Calls Try.prog 18 #[.agg #[.int .i64 ak, .int .i64 an, .string az], .agg #[.int .i64 bk, .int .i64 bn, .string bz]] w fun e w' => e = .returned (.tuple #[.agg #[.int .i64 P.k, .int .i64 P.n, .string P.s], .int .i64 v]) ∧ Below w.heap.size w w' := fun w => by have h9 := mul04 ak an az bk bn bz w; rw [hP, hv] at h9; exact h9
  have CL : ∀ w, Calls Try.prog 19 #[.agg #[.int .i64 ak, .int .i64 an, .string az], .agg #[.int .i64 bk, .int .i64 bn, .string bz]] w fun e w' => e = .returned (.tuple #[.agg #[.int .i64 L.k, .int .i64 L.n, .string L.s], .int .i64 t]) ∧ Below w.heap.size w w' := fun w => by have h9 := lessI ak an az bk bn bz w; rw [hL, ht] at h9; exact h9
  have CG : ∀ w, Calls Try.prog 19 #[.agg #[.int .i64 bk, .int .i64 bn, .string bz], .agg #[.int .i64 ak, .int .i64 an, .string az]] w fun e w' => e = .returned (.tuple #[.agg #[.int .i64 G.k, .int .i64 G.n, .string G.s], .int .i64 t]) ∧ Below w.heap.size w w' := fun w => by have h9 := lessI bk bn bz ak an az w; rw [lessT_comm ⟨ak, an, az⟩ ⟨bk, bn, bz⟩, hG, ht] at h9; exact h9
  have DL : ∀ w, Calls Try.prog 22 #[.agg #[.int .i64 ak, .int .i64 an, .string az], .agg #[.int .i64 bk, .int .i64 bn, .string bz]] w fun e w' => e = .returned (.tuple #[.agg #[.int .i64 L.k, .int .i64 L.n, .string L.s], .int .i64 t]) ∧ Below w.heap.size w w' := fun w => by have h9 := less04 ak an az bk bn bz w; rw [hL, ht] at h9; exact h9
  have CS : ∀ w, Calls Try.prog 20 #[.agg #[.int .i64 ak, .int .i64 an, .string az], .agg #[.int .i64 bk, .int .i64 bn, .string bz]] w fun e w' => e = .returned (.agg #[.int .i64 M.k, .int .i64 M.n, .string M.s]) ∧ Below w.heap.size w w' := fun w => by have h9 := sameI ak an az bk bn bz w; rw [hM] at h9; exact h9
  have CT : ∀ w, Calls Try.prog 20 #[.agg #[.int .i64 bk, .int .i64 bn, .string bz], .agg #[.int .i64 ak, .int .i64 an, .string az]] w fun e w' => e = .returned (.agg #[.int .i64 M.k, .int .i64 M.n, .string M.s]) ∧ Below w.heap.size w w' := fun w => by have h9 := sameI bk bn bz ak an az w; rw [sameV_comm ⟨ak, an, az⟩ ⟨bk, bn, bz⟩, hM] at h9; exact h9
  have DS : ∀ w, Calls Try.prog 21 #[.agg #[.int .i64 ak, .int .i64 an, .string az], .agg #[.int .i64 bk, .int .i64 bn, .string bz]] w fun e w' => e = .returned (.agg #[.int .i64 M.k, .int .i64 M.n, .string M.s]) ∧ Below w.heap.size w w' := fun w => by have h9 := same04 ak an az bk bn bz w; rw [hM] at h9; exact h9
  have HX := Lib.hid hX
  have HY := Lib.hid hY
  have HP := Lib.hid hP
  have HD := Lib.hid hD
  have HL := Lib.hid hL
  have HG := Lib.hid hG
  have HM := Lib.hid hM
  have Hs := Lib.hid hs
  have Hv := Lib.hid hv
  have He := Lib.hid he
  have Ht := Lib.hid ht
  clear hX hY hP hD hL hG hM hs hv he ht
  try clear x_b3
  replace hS := hS.made (.cells #[.int .i64 ak, .int .i64 an, .string az] 25 (0, 0))
  have x_b3 := hS.cell 0 rfl
  try clear x_b3
  try clear x_b4
  replace hS := hS.madeAt (.cells #[.int .i64 bk, .int .i64 bn, .string bz] 25 (0, 0)) (w2.heap.size + 1) (by simp)
  have x_b3 := hS.cell 1 rfl
  have x_b4 := hS.cell 0 rfl
  go_wp2_with fail
  refine (CX _).mono ?_
  rintro e w5 ⟨rfl, hb⟩
  try clear x_b3
  try clear x_b4
  replace hS := hS.step hb
  clear hb
  have x_b3 := hS.cell 1 rfl
  have x_b4 := hS.cell 0 rfl
  try clear x_b3
  try clear x_b4
  try clear x_b6
  replace hS := hS.made (.cells #[.int .i64 X.k, .int .i64 X.n, .string X.s] 25 (0, 0))
  have x_b3 := hS.cell 2 rfl
  have x_b4 := hS.cell 1 rfl
  have x_b6 := hS.cell 0 rfl
  go_wp2_with fail
  refine (CY _).mono ?_
  rintro e w7 ⟨rfl, hb⟩
  try clear x_b3
  try clear x_b4
  try clear x_b6
  replace hS := hS.step hb
  clear hb
  have x_b3 := hS.cell 2 rfl
  have x_b4 := hS.cell 1 rfl
  have x_b6 := hS.cell 0 rfl
  try clear x_b3
  try clear x_b4
  try clear x_b6
  try clear x_b8
  replace hS := hS.made (.cells #[.int .i64 Y.k, .int .i64 Y.n, .string Y.s] 25 (0, 0))
  have x_b3 := hS.cell 3 rfl
  have x_b4 := hS.cell 2 rfl
  have x_b6 := hS.cell 1 rfl
  have x_b8 := hS.cell 0 rfl
  go_wp2_with fail
  refine (CP _).mono ?_
  rintro e w9 ⟨rfl, hb⟩
  try clear x_b3
  try clear x_b4
  try clear x_b6
  try clear x_b8
  replace hS := hS.step hb
  clear hb
  have x_b3 := hS.cell 3 rfl
  have x_b4 := hS.cell 2 rfl
  have x_b6 := hS.cell 1 rfl
  have x_b8 := hS.cell 0 rfl
  try clear x_b3
  try clear x_b4
  try clear x_b6
  try clear x_b8
  try clear x_b10
  replace hS := hS.made (.cells #[.int .i64 P.k, .int .i64 P.n, .string P.s] 25 (0, 0))
  have x_b3 := hS.cell 4 rfl
  have x_b4 := hS.cell 3 rfl
  have x_b6 := hS.cell 2 rfl
  have x_b8 := hS.cell 1 rfl
  have x_b10 := hS.cell 0 rfl
  go_wp2_with fail
  refine (CQ _).mono ?_
  rintro e w11 ⟨rfl, hb⟩
  try clear x_b3
  try clear x_b4
  try clear x_b6
  try clear x_b8
  try clear x_b10
  replace hS := hS.step hb
  clear hb
  have x_b3 := hS.cell 4 rfl
  have x_b4 := hS.cell 3 rfl
  have x_b6 := hS.cell 2 rfl
  have x_b8 := hS.cell 1 rfl
  have x_b10 := hS.cell 0 rfl
  try clear x_b3
  try clear x_b4
  try clear x_b6
  try clear x_b8
  try clear x_b10
  try clear x_b12
  replace hS := hS.made (.cells #[.int .i64 P.k, .int .i64 P.n, .string P.s] 25 (0, 0))
  have x_b3 := hS.cell 5 rfl
  have x_b4 := hS.cell 4 rfl
  have x_b6 := hS.cell 3 rfl
  have x_b8 := hS.cell 2 rfl
  have x_b10 := hS.cell 1 rfl
  have x_b12 := hS.cell 0 rfl
  go_wp2_with fail
  refine (CD _).mono ?_
  rintro e w13 ⟨rfl, hb⟩
  try clear x_b3
  try clear x_b4
  try clear x_b6
  try clear x_b8
  try clear x_b10
  try clear x_b12
  replace hS := hS.step hb
  clear hb
  have x_b3 := hS.cell 5 rfl
  have x_b4 := hS.cell 4 rfl
  have x_b6 := hS.cell 3 rfl
  have x_b8 := hS.cell 2 rfl
  have x_b10 := hS.cell 1 rfl
  have x_b12 := hS.cell 0 rfl
  try clear x_b3
  try clear x_b4
  try clear x_b6
  try clear x_b8
  try clear x_b10
  try clear x_b12
  try clear x_b14
  replace hS := hS.made (.cells #[.int .i64 D.k, .int .i64 D.n, .string D.s] 25 (0, 0))
  have x_b3 := hS.cell 6 rfl
  have x_b4 := hS.cell 5 rfl
  have x_b6 := hS.cell 4 rfl
  have x_b8 := hS.cell 3 rfl
  have x_b10 := hS.cell 2 rfl
  have x_b12 := hS.cell 1 rfl
  have x_b14 := hS.cell 0 rfl
  go_wp2_with fail
  refine (DX _).mono ?_
  rintro e w15 ⟨rfl, hb⟩
  try clear x_b3
  try clear x_b4
  try clear x_b6
  try clear x_b8
  try clear x_b10
  try clear x_b12
  try clear x_b14
  replace hS := hS.step hb
  clear hb
  have x_b3 := hS.cell 6 rfl
  have x_b4 := hS.cell 5 rfl
  have x_b6 := hS.cell 4 rfl
  have x_b8 := hS.cell 3 rfl
  have x_b10 := hS.cell 2 rfl
  have x_b12 := hS.cell 1 rfl
  have x_b14 := hS.cell 0 rfl
  try clear x_b3
  try clear x_b4
  try clear x_b6
  try clear x_b8
  try clear x_b10
  try clear x_b12
  try clear x_b14
  try clear x_b16
  replace hS := hS.made (.cells #[.int .i64 X.k, .int .i64 X.n, .string X.s] 25 (0, 0))
  have x_b3 := hS.cell 7 rfl
  have x_b4 := hS.cell 6 rfl
  have x_b6 := hS.cell 5 rfl
  have x_b8 := hS.cell 4 rfl
  have x_b10 := hS.cell 3 rfl
  have x_b12 := hS.cell 2 rfl
  have x_b14 := hS.cell 1 rfl
  have x_b16 := hS.cell 0 rfl
  go_wp2_with fail
  refine (DP _).mono ?_
  rintro e w17 ⟨rfl, hb⟩
  try clear x_b3
  try clear x_b4
  try clear x_b6
  try clear x_b8
  try clear x_b10
  try clear x_b12
  try clear x_b14
  try clear x_b16
  replace hS := hS.step hb
  clear hb
  have x_b3 := hS.cell 7 rfl
  have x_b4 := hS.cell 6 rfl
  have x_b6 := hS.cell 5 rfl
  have x_b8 := hS.cell 4 rfl
  have x_b10 := hS.cell 3 rfl
  have x_b12 := hS.cell 2 rfl
  have x_b14 := hS.cell 1 rfl
  have x_b16 := hS.cell 0 rfl
  try clear x_b3
  try clear x_b4
  try clear x_b6
  try clear x_b8
  try clear x_b10
  try clear x_b12
  try clear x_b14
  try clear x_b16
  try clear x_b18
  replace hS := hS.made (.cells #[.int .i64 P.k, .int .i64 P.n, .string P.s] 25 (0, 0))
  have x_b3 := hS.cell 8 rfl
  have x_b4 := hS.cell 7 rfl
  have x_b6 := hS.cell 6 rfl
  have x_b8 := hS.cell 5 rfl
  have x_b10 := hS.cell 4 rfl
  have x_b12 := hS.cell 3 rfl
  have x_b14 := hS.cell 2 rfl
  have x_b16 := hS.cell 1 rfl
  have x_b18 := hS.cell 0 rfl
  by_cases k1 : ak = 1
  · subst k1
    by_cases k2 : bk = 1
    · subst k2
      have t0 : t = 0 := by have h9 : lessT ⟨1, an, az⟩ ⟨1, bn, bz⟩ = t := Ht; rw [← h9]; simp [lessT]
      subst t0
      by_cases e1 : az.toList = []
      · by_cases e2 : bz.toList = []
        · skip
          have hY : X = Y := by have h8 : addV ⟨1, bn, bz⟩ ⟨1, an, az⟩ = Y := HY; have h9 : addV ⟨1, an, az⟩ ⟨1, bn, bz⟩ = X := HX; rw [← h8, ← h9]; exact (addV_comm rfl).symm
          subst hY
          have hLn : L.n = 0 ∨ L.n = 1 := by have h9 : lessV ⟨1, an, az⟩ ⟨1, bn, bz⟩ = L := HL; rw [← h9]; exact lessV_n _ _
          have hGn : G.n = 0 ∨ G.n = 1 := by have h9 : lessV ⟨1, bn, bz⟩ ⟨1, an, az⟩ = G := HG; rw [← h9]; exact lessV_n _ _
          have hMn : M.n = 0 ∨ M.n = 1 := by have h9 : sameV ⟨1, an, az⟩ ⟨1, bn, bz⟩ = M := HM; rw [← h9]; exact sameV_n _ _
          have hsum : L.n + G.n + M.n = 1 := by have h7 : lessV ⟨1, an, az⟩ ⟨1, bn, bz⟩ = L := HL; have h8 : lessV ⟨1, bn, bz⟩ ⟨1, an, az⟩ = G := HG; have h9 : sameV ⟨1, an, az⟩ ⟨1, bn, bz⟩ = M := HM; rw [← h7, ← h8, ← h9]; exact one_int rfl rfl e1 e2
          by_cases s0 : s = 0
          · skip
            subst s0
            have hBK := back (a := ⟨1, an, az⟩) (b := ⟨1, bn, bz⟩) rfl rfl (show addT ⟨1, an, az⟩ ⟨1, bn, bz⟩ = 0 from Hs)
            have e00 : e0 = 0 := by have h8 : addV ⟨1, an, az⟩ ⟨1, bn, bz⟩ = X := HX; have h9 : arT (· - ·) X ⟨1, bn, bz⟩ = e0 := He; rw [← h9, ← h8]; exact hBK.1
            have hD : D = intV an := by have h8 : addV ⟨1, an, az⟩ ⟨1, bn, bz⟩ = X := HX; have h9 : arV (· - ·) X ⟨1, bn, bz⟩ = D := HD; rw [← h9, ← h8]; exact hBK.2
            clear hBK
            subst e00 hD
            dsimp only [intV] at *
            go_wp2_with fail
            refine (CL _).mono ?_
            rintro e w19 ⟨rfl, hb⟩
            try clear x_b3
            try clear x_b4
            try clear x_b6
            try clear x_b8
            try clear x_b10
            try clear x_b12
            try clear x_b14
            try clear x_b16
            try clear x_b18
            replace hS := hS.step hb
            clear hb
            have x_b3 := hS.cell 8 rfl
            have x_b4 := hS.cell 7 rfl
            have x_b6 := hS.cell 6 rfl
            have x_b8 := hS.cell 5 rfl
            have x_b10 := hS.cell 4 rfl
            have x_b12 := hS.cell 3 rfl
            have x_b14 := hS.cell 2 rfl
            have x_b16 := hS.cell 1 rfl
            have x_b18 := hS.cell 0 rfl
            try clear x_b3
            try clear x_b4
            try clear x_b6
            try clear x_b8
            try clear x_b10
            try clear x_b12
            try clear x_b14
            try clear x_b16
            try clear x_b18
            try clear x_b20
            replace hS := hS.made (.cells #[.int .i64 L.k, .int .i64 L.n, .string L.s] 25 (0, 0))
            have x_b3 := hS.cell 9 rfl
            have x_b4 := hS.cell 8 rfl
            have x_b6 := hS.cell 7 rfl
            have x_b8 := hS.cell 6 rfl
            have x_b10 := hS.cell 5 rfl
            have x_b12 := hS.cell 4 rfl
            have x_b14 := hS.cell 3 rfl
            have x_b16 := hS.cell 2 rfl
            have x_b18 := hS.cell 1 rfl
            have x_b20 := hS.cell 0 rfl
            go_wp2_with fail
            refine (CG _).mono ?_
            rintro e w21 ⟨rfl, hb⟩
            try clear x_b3
            try clear x_b4
            try clear x_b6
            try clear x_b8
            try clear x_b10
            try clear x_b12
            try clear x_b14
            try clear x_b16
            try clear x_b18
            try clear x_b20
            replace hS := hS.step hb
            clear hb
            have x_b3 := hS.cell 9 rfl
            have x_b4 := hS.cell 8 rfl
            have x_b6 := hS.cell 7 rfl
            have x_b8 := hS.cell 6 rfl
            have x_b10 := hS.cell 5 rfl
            have x_b12 := hS.cell 4 rfl
            have x_b14 := hS.cell 3 rfl
            have x_b16 := hS.cell 2 rfl
            have x_b18 := hS.cell 1 rfl
            have x_b20 := hS.cell 0 rfl
            try clear x_b3
            try clear x_b4
            try clear x_b6
            try clear x_b8
            try clear x_b10
            try clear x_b12
            try clear x_b14
            try clear x_b16
            try clear x_b18
            try clear x_b20
            try clear x_b22
            replace hS := hS.made (.cells #[.int .i64 G.k, .int .i64 G.n, .string G.s] 25 (0, 0))
            have x_b3 := hS.cell 10 rfl
            have x_b4 := hS.cell 9 rfl
            have x_b6 := hS.cell 8 rfl
            have x_b8 := hS.cell 7 rfl
            have x_b10 := hS.cell 6 rfl
            have x_b12 := hS.cell 5 rfl
            have x_b14 := hS.cell 4 rfl
            have x_b16 := hS.cell 3 rfl
            have x_b18 := hS.cell 2 rfl
            have x_b20 := hS.cell 1 rfl
            have x_b22 := hS.cell 0 rfl
            go_wp2_with fail
            refine (CS _).mono ?_
            rintro e w23 ⟨rfl, hb⟩
            try clear x_b3
            try clear x_b4
            try clear x_b6
            try clear x_b8
            try clear x_b10
            try clear x_b12
            try clear x_b14
            try clear x_b16
            try clear x_b18
            try clear x_b20
            try clear x_b22
            replace hS := hS.step hb
            clear hb
            have x_b3 := hS.cell 10 rfl
            have x_b4 := hS.cell 9 rfl
            have x_b6 := hS.cell 8 rfl
            have x_b8 := hS.cell 7 rfl
            have x_b10 := hS.cell 6 rfl
            have x_b12 := hS.cell 5 rfl
            have x_b14 := hS.cell 4 rfl
            have x_b16 := hS.cell 3 rfl
            have x_b18 := hS.cell 2 rfl
            have x_b20 := hS.cell 1 rfl
            have x_b22 := hS.cell 0 rfl
            try clear x_b3
            try clear x_b4
            try clear x_b6
            try clear x_b8
            try clear x_b10
            try clear x_b12
            try clear x_b14
            try clear x_b16
            try clear x_b18
            try clear x_b20
            try clear x_b22
            try clear x_b24
            replace hS := hS.made (.cells #[.int .i64 M.k, .int .i64 M.n, .string M.s] 25 (0, 0))
            have x_b3 := hS.cell 11 rfl
            have x_b4 := hS.cell 10 rfl
            have x_b6 := hS.cell 9 rfl
            have x_b8 := hS.cell 8 rfl
            have x_b10 := hS.cell 7 rfl
            have x_b12 := hS.cell 6 rfl
            have x_b14 := hS.cell 5 rfl
            have x_b16 := hS.cell 4 rfl
            have x_b18 := hS.cell 3 rfl
            have x_b20 := hS.cell 2 rfl
            have x_b22 := hS.cell 1 rfl
            have x_b24 := hS.cell 0 rfl
            go_wp2
            try clear x_b3
            try clear x_b4
            try clear x_b6
            try clear x_b8
            try clear x_b10
            try clear x_b12
            try clear x_b14
            try clear x_b16
            try clear x_b18
            try clear x_b20
            try clear x_b22
            try clear x_b24
            replace hS := hS.drew
            refine wp_region_held_drew (S := (fun w' => w'.cell? ⟨w23.heap.size, 0, none⟩ = some (.int .i64 M.k) ∧ w'.cell? ⟨w23.heap.size, 1, none⟩ = some (.int .i64 M.n) ∧ w'.cell? ⟨w23.heap.size, 2, none⟩ = some (.string M.s) ∧ w'.cell? ⟨w2.heap.size, 0, none⟩ = some (.int .i64 1) ∧ w'.cell? ⟨w2.heap.size, 1, none⟩ = some (.int .i64 an) ∧ w'.cell? ⟨w2.heap.size, 2, none⟩ = some (.string az) ∧ w'.cell? ⟨w2.heap.size + 1, 0, none⟩ = some (.int .i64 1) ∧ w'.cell? ⟨w2.heap.size + 1, 1, none⟩ = some (.int .i64 bn) ∧ w'.cell? ⟨w2.heap.size + 1, 2, none⟩ = some (.string bz))) (by kernel_rfl) (⟨hS.cell 0 rfl 0, hS.cell 0 rfl 1, hS.cell 0 rfl 2, hS.cell 11 rfl 0, hS.cell 11 rfl 1, hS.cell 11 rfl 2, hS.cell 10 rfl 0, hS.cell 10 rfl 1, hS.cell 10 rfl 2⟩) (fun hHeld => ?_)
            first | (refine regW 0 (v := ?_) rfl (by rfl) (by kernel_rfl) (fun _ _ _ h => h) ?_ (by assumption) ?_; rotate_left; focus (intro w9 hSw; (try dsimp only at hSw); go_simp; (try with_reducible rfl); done)) | refine regU 0 rfl (by rfl) (by kernel_rfl) (fun _ _ _ h => h) (by assumption) ?_ | refine regN 0 rfl (by rfl) (by kernel_rfl) (by assumption) ?_
            try simp only [Act.put, List.setIfInBounds_toArray, List.set_cons_zero, List.set_cons_succ]
            first | (refine regW 1 (v := ?_) rfl (by rfl) (by kernel_rfl) (fun _ _ _ h => h) ?_ (by assumption) ?_; rotate_left; focus (intro w9 hSw; (try dsimp only at hSw); go_simp; (try with_reducible rfl); done)) | refine regU 1 rfl (by rfl) (by kernel_rfl) (fun _ _ _ h => h) (by assumption) ?_ | refine regN 1 rfl (by rfl) (by kernel_rfl) (by assumption) ?_
            try simp only [Act.put, List.setIfInBounds_toArray, List.set_cons_zero, List.set_cons_succ]
            first | (refine regW 2 (v := ?_) rfl (by rfl) (by kernel_rfl) (fun _ _ _ h => h) ?_ (by assumption) ?_; rotate_left; focus (intro w9 hSw; (try dsimp only at hSw); go_simp; (try with_reducible rfl); done)) | refine regU 2 rfl (by rfl) (by kernel_rfl) (fun _ _ _ h => h) (by assumption) ?_ | refine regN 2 rfl (by rfl) (by kernel_rfl) (by assumption) ?_
            try simp only [Act.put, List.setIfInBounds_toArray, List.set_cons_zero, List.set_cons_succ]
            first | (refine regW 3 (v := ?_) rfl (by rfl) (by kernel_rfl) (fun _ _ _ h => h) ?_ (by assumption) ?_; rotate_left; focus (intro w9 hSw; (try dsimp only at hSw); go_simp; (try with_reducible rfl); done)) | refine regU 3 rfl (by rfl) (by kernel_rfl) (fun _ _ _ h => h) (by assumption) ?_ | refine regN 3 rfl (by rfl) (by kernel_rfl) (by assumption) ?_
            try simp only [Act.put, List.setIfInBounds_toArray, List.set_cons_zero, List.set_cons_succ]
            first | (refine regW 4 (v := ?_) rfl (by rfl) (by kernel_rfl) (fun _ _ _ h => h) ?_ (by assumption) ?_; rotate_left; focus (intro w9 hSw; (try dsimp only at hSw); go_simp; (try with_reducible rfl); done)) | refine regU 4 rfl (by rfl) (by kernel_rfl) (fun _ _ _ h => h) (by assumption) ?_ | refine regN 4 rfl (by rfl) (by kernel_rfl) (by assumption) ?_
            try simp only [Act.put, List.setIfInBounds_toArray, List.set_cons_zero, List.set_cons_succ]
            first | (refine regW 5 (v := ?_) rfl (by rfl) (by kernel_rfl) (fun _ _ _ h => h) ?_ (by assumption) ?_; rotate_left; focus (intro w9 hSw; (try dsimp only at hSw); go_simp; (try with_reducible rfl); done)) | refine regU 5 rfl (by rfl) (by kernel_rfl) (fun _ _ _ h => h) (by assumption) ?_ | refine regN 5 rfl (by rfl) (by kernel_rfl) (by assumption) ?_
            try simp only [Act.put, List.setIfInBounds_toArray, List.set_cons_zero, List.set_cons_succ]
            first | (refine regW 6 (v := ?_) rfl (by rfl) (by kernel_rfl) (fun _ _ _ h => h) ?_ (by assumption) ?_; rotate_left; focus (intro w9 hSw; (try dsimp only at hSw); go_simp; (try with_reducible rfl); done)) | refine regU 6 rfl (by rfl) (by kernel_rfl) (fun _ _ _ h => h) (by assumption) ?_ | refine regN 6 rfl (by rfl) (by kernel_rfl) (by assumption) ?_
            try simp only [Act.put, List.setIfInBounds_toArray, List.set_cons_zero, List.set_cons_succ]
            refine regC 7 rfl (by kernel_rfl) (by rfl) (fun Kq hKq => ?_)
            go_simp
            (with_reducible refine (DS _).mono ?_)
            rintro e w25 ⟨rfl, hb⟩; replace hS := hS.step hb; clear hb
            try go_wp2_with fail
            refine hKq.out _ _ (⟨hS.cell 0 rfl 0, hS.cell 0 rfl 1, hS.cell 0 rfl 2, hS.cell 11 rfl 0, hS.cell 11 rfl 1, hS.cell 11 rfl 2, hS.cell 10 rfl 0, hS.cell 10 rfl 1, hS.cell 10 rfl 2⟩) (fun hHeld => ?_)
            clear hKq Kq
            (try simp only [Act.put, List.setIfInBounds_toArray, List.set_cons_zero, List.set_cons_succ])
            first | (refine regW 8 (v := ?_) rfl (by rfl) (by kernel_rfl) (fun _ _ _ h => h) ?_ (by assumption) ?_; rotate_left; focus (intro w9 hSw; (try dsimp only at hSw); go_simp; (try with_reducible rfl); done)) | refine regU 8 rfl (by rfl) (by kernel_rfl) (fun _ _ _ h => h) (by assumption) ?_ | refine regN 8 rfl (by rfl) (by kernel_rfl) (by assumption) ?_
            try simp only [Act.put, List.setIfInBounds_toArray, List.set_cons_zero, List.set_cons_succ]
            first | (refine regW 9 (v := ?_) rfl (by rfl) (by kernel_rfl) (fun _ _ _ h => h) ?_ (by assumption) ?_; rotate_left; focus (intro w9 hSw; (try dsimp only at hSw); go_simp; (try with_reducible rfl); done)) | refine regU 9 rfl (by rfl) (by kernel_rfl) (fun _ _ _ h => h) (by assumption) ?_ | refine regN 9 rfl (by rfl) (by kernel_rfl) (by assumption) ?_
            try simp only [Act.put, List.setIfInBounds_toArray, List.set_cons_zero, List.set_cons_succ]
            first | (refine regW 10 (v := ?_) rfl (by rfl) (by kernel_rfl) (fun _ _ _ h => h) ?_ (by assumption) ?_; rotate_left; focus (intro w9 hSw; (try dsimp only at hSw); go_simp; (try with_reducible rfl); done)) | refine regU 10 rfl (by rfl) (by kernel_rfl) (fun _ _ _ h => h) (by assumption) ?_ | refine regN 10 rfl (by rfl) (by kernel_rfl) (by assumption) ?_
            try simp only [Act.put, List.setIfInBounds_toArray, List.set_cons_zero, List.set_cons_succ]
            first | (refine regW 11 (v := ?_) rfl (by rfl) (by kernel_rfl) (fun _ _ _ h => h) ?_ (by assumption) ?_; rotate_left; focus (intro w9 hSw; (try dsimp only at hSw); go_simp; (try with_reducible rfl); done)) | refine regU 11 rfl (by rfl) (by kernel_rfl) (fun _ _ _ h => h) (by assumption) ?_ | refine regN 11 rfl (by rfl) (by kernel_rfl) (by assumption) ?_
            try simp only [Act.put, List.setIfInBounds_toArray, List.set_cons_zero, List.set_cons_succ]
            first | (refine regW 12 (v := ?_) rfl (by rfl) (by kernel_rfl) (fun _ _ _ h => h) ?_ (by assumption) ?_; rotate_left; focus (intro w9 hSw; (try dsimp only at hSw); go_simp; (try with_reducible rfl); done)) | refine regU 12 rfl (by rfl) (by kernel_rfl) (fun _ _ _ h => h) (by assumption) ?_ | refine regN 12 rfl (by rfl) (by kernel_rfl) (by assumption) ?_
            try simp only [Act.put, List.setIfInBounds_toArray, List.set_cons_zero, List.set_cons_succ]
            first | (refine regW 13 (v := ?_) rfl (by rfl) (by kernel_rfl) (fun _ _ _ h => h) ?_ (by assumption) ?_; rotate_left; focus (intro w9 hSw; (try dsimp only at hSw); go_simp; (try with_reducible rfl); done)) | refine regU 13 rfl (by rfl) (by kernel_rfl) (fun _ _ _ h => h) (by assumption) ?_ | refine regN 13 rfl (by rfl) (by kernel_rfl) (by assumption) ?_
            try simp only [Act.put, List.setIfInBounds_toArray, List.set_cons_zero, List.set_cons_succ]
            refine regC 14 rfl (by kernel_rfl) (by rfl) (fun Kq hKq => ?_)
            go_simp
            (with_reducible refine (CT _).mono ?_)
            rintro e w26 ⟨rfl, hb⟩; replace hS := hS.step hb; clear hb
            try go_wp2_with fail
            refine hKq.out _ _ (⟨hS.cell 0 rfl 0, hS.cell 0 rfl 1, hS.cell 0 rfl 2, hS.cell 11 rfl 0, hS.cell 11 rfl 1, hS.cell 11 rfl 2, hS.cell 10 rfl 0, hS.cell 10 rfl 1, hS.cell 10 rfl 2⟩) (fun hHeld => ?_)
            clear hKq Kq
            (try simp only [Act.put, List.setIfInBounds_toArray, List.set_cons_zero, List.set_cons_succ])
            first | (refine regW 15 (v := ?_) rfl (by rfl) (by kernel_rfl) (fun _ _ _ h => h) ?_ (by assumption) ?_; rotate_left; focus (intro w9 hSw; (try dsimp only at hSw); go_simp; (try with_reducible rfl); done)) | refine regU 15 rfl (by rfl) (by kernel_rfl) (fun _ _ _ h => h) (by assumption) ?_ | refine regN 15 rfl (by rfl) (by kernel_rfl) (by assumption) ?_
            try simp only [Act.put, List.setIfInBounds_toArray, List.set_cons_zero, List.set_cons_succ]
            first | (refine regW 16 (v := ?_) rfl (by rfl) (by kernel_rfl) (fun _ _ _ h => h) ?_ (by assumption) ?_; rotate_left; focus (intro w9 hSw; (try dsimp only at hSw); go_simp; (try with_reducible rfl); done)) | refine regU 16 rfl (by rfl) (by kernel_rfl) (fun _ _ _ h => h) (by assumption) ?_ | refine regN 16 rfl (by rfl) (by kernel_rfl) (by assumption) ?_
            try simp only [Act.put, List.setIfInBounds_toArray, List.set_cons_zero, List.set_cons_succ]
            refine wpAnyH_done (by kernel_rfl) ?_ _
            clear hHeld
            have x_b3 := hS.cell 11 rfl
            have x_b4 := hS.cell 10 rfl
            have x_b6 := hS.cell 9 rfl
            have x_b8 := hS.cell 8 rfl
            have x_b10 := hS.cell 7 rfl
            have x_b12 := hS.cell 6 rfl
            have x_b14 := hS.cell 5 rfl
            have x_b16 := hS.cell 4 rfl
            have x_b18 := hS.cell 3 rfl
            have x_b20 := hS.cell 2 rfl
            have x_b22 := hS.cell 1 rfl
            have x_b24 := hS.cell 0 rfl
            go_wp2_with fail
            refine (DL _).mono ?_
            rintro e w27 ⟨rfl, hb⟩
            try clear x_b3
            try clear x_b4
            try clear x_b6
            try clear x_b8
            try clear x_b10
            try clear x_b12
            try clear x_b14
            try clear x_b16
            try clear x_b18
            try clear x_b20
            try clear x_b22
            try clear x_b24
            replace hS := hS.step hb
            clear hb
            have x_b3 := hS.cell 11 rfl
            have x_b4 := hS.cell 10 rfl
            have x_b6 := hS.cell 9 rfl
            have x_b8 := hS.cell 8 rfl
            have x_b10 := hS.cell 7 rfl
            have x_b12 := hS.cell 6 rfl
            have x_b14 := hS.cell 5 rfl
            have x_b16 := hS.cell 4 rfl
            have x_b18 := hS.cell 3 rfl
            have x_b20 := hS.cell 2 rfl
            have x_b22 := hS.cell 1 rfl
            have x_b24 := hS.cell 0 rfl
            try clear x_b3
            try clear x_b4
            try clear x_b6
            try clear x_b8
            try clear x_b10
            try clear x_b12
            try clear x_b14
            try clear x_b16
            try clear x_b18
            try clear x_b20
            try clear x_b22
            try clear x_b24
            try clear x_b28
            replace hS := hS.made (.cells #[.int .i64 L.k, .int .i64 L.n, .string L.s] 25 (0, 0))
            have x_b3 := hS.cell 12 rfl
            have x_b4 := hS.cell 11 rfl
            have x_b6 := hS.cell 10 rfl
            have x_b8 := hS.cell 9 rfl
            have x_b10 := hS.cell 8 rfl
            have x_b12 := hS.cell 7 rfl
            have x_b14 := hS.cell 6 rfl
            have x_b16 := hS.cell 5 rfl
            have x_b18 := hS.cell 4 rfl
            have x_b20 := hS.cell 3 rfl
            have x_b22 := hS.cell 2 rfl
            have x_b24 := hS.cell 1 rfl
            have x_b28 := hS.cell 0 rfl
            go_wp2
            go_ret
            exact ⟨ret_bool (by first | rfl | (simp only [decide_eq_true_eq]; rw [IntWalk.i64_in (by omega) (by omega), IntWalk.i64_in (by omega) (by omega)]; omega) | simp_all), hS.bel⟩
          · skip
            go_wp2_with fail
            refine (CL _).mono ?_
            rintro e w19 ⟨rfl, hb⟩
            try clear x_b3
            try clear x_b4
            try clear x_b6
            try clear x_b8
            try clear x_b10
            try clear x_b12
            try clear x_b14
            try clear x_b16
            try clear x_b18
            replace hS := hS.step hb
            clear hb
            have x_b3 := hS.cell 8 rfl
            have x_b4 := hS.cell 7 rfl
            have x_b6 := hS.cell 6 rfl
            have x_b8 := hS.cell 5 rfl
            have x_b10 := hS.cell 4 rfl
            have x_b12 := hS.cell 3 rfl
            have x_b14 := hS.cell 2 rfl
            have x_b16 := hS.cell 1 rfl
            have x_b18 := hS.cell 0 rfl
            try clear x_b3
            try clear x_b4
            try clear x_b6
            try clear x_b8
            try clear x_b10
            try clear x_b12
            try clear x_b14
            try clear x_b16
            try clear x_b18
            try clear x_b20
            replace hS := hS.made (.cells #[.int .i64 L.k, .int .i64 L.n, .string L.s] 25 (0, 0))
            have x_b3 := hS.cell 9 rfl
            have x_b4 := hS.cell 8 rfl
            have x_b6 := hS.cell 7 rfl
            have x_b8 := hS.cell 6 rfl
            have x_b10 := hS.cell 5 rfl
            have x_b12 := hS.cell 4 rfl
            have x_b14 := hS.cell 3 rfl
            have x_b16 := hS.cell 2 rfl
            have x_b18 := hS.cell 1 rfl
            have x_b20 := hS.cell 0 rfl
            go_wp2_with fail
            refine (CG _).mono ?_
            rintro e w21 ⟨rfl, hb⟩
            try clear x_b3
            try clear x_b4
            try clear x_b6
            try clear x_b8
            try clear x_b10
            try clear x_b12
            try clear x_b14
            try clear x_b16
            try clear x_b18
            try clear x_b20
            replace hS := hS.step hb
            clear hb
            have x_b3 := hS.cell 9 rfl
            have x_b4 := hS.cell 8 rfl
            have x_b6 := hS.cell 7 rfl
            have x_b8 := hS.cell 6 rfl
            have x_b10 := hS.cell 5 rfl
            have x_b12 := hS.cell 4 rfl
            have x_b14 := hS.cell 3 rfl
            have x_b16 := hS.cell 2 rfl
            have x_b18 := hS.cell 1 rfl
            have x_b20 := hS.cell 0 rfl
            try clear x_b3
            try clear x_b4
            try clear x_b6
            try clear x_b8
            try clear x_b10
            try clear x_b12
            try clear x_b14
            try clear x_b16
            try clear x_b18
            try clear x_b20
            try clear x_b22
            replace hS := hS.made (.cells #[.int .i64 G.k, .int .i64 G.n, .string G.s] 25 (0, 0))
            have x_b3 := hS.cell 10 rfl
            have x_b4 := hS.cell 9 rfl
            have x_b6 := hS.cell 8 rfl
            have x_b8 := hS.cell 7 rfl
            have x_b10 := hS.cell 6 rfl
            have x_b12 := hS.cell 5 rfl
            have x_b14 := hS.cell 4 rfl
            have x_b16 := hS.cell 3 rfl
            have x_b18 := hS.cell 2 rfl
            have x_b20 := hS.cell 1 rfl
            have x_b22 := hS.cell 0 rfl
            go_wp2_with fail
            refine (CS _).mono ?_
            rintro e w23 ⟨rfl, hb⟩
            try clear x_b3
            try clear x_b4
            try clear x_b6
            try clear x_b8
            try clear x_b10
            try clear x_b12
            try clear x_b14
            try clear x_b16
            try clear x_b18
            try clear x_b20
            try clear x_b22
            replace hS := hS.step hb
            clear hb
            have x_b3 := hS.cell 10 rfl
            have x_b4 := hS.cell 9 rfl
            have x_b6 := hS.cell 8 rfl
            have x_b8 := hS.cell 7 rfl
            have x_b10 := hS.cell 6 rfl
            have x_b12 := hS.cell 5 rfl
            have x_b14 := hS.cell 4 rfl
            have x_b16 := hS.cell 3 rfl
            have x_b18 := hS.cell 2 rfl
            have x_b20 := hS.cell 1 rfl
            have x_b22 := hS.cell 0 rfl
            try clear x_b3
            try clear x_b4
            try clear x_b6
            try clear x_b8
            try clear x_b10
            try clear x_b12
            try clear x_b14
            try clear x_b16
            try clear x_b18
            try clear x_b20
            try clear x_b22
            try clear x_b24
            replace hS := hS.made (.cells #[.int .i64 M.k, .int .i64 M.n, .string M.s] 25 (0, 0))
            have x_b3 := hS.cell 11 rfl
            have x_b4 := hS.cell 10 rfl
            have x_b6 := hS.cell 9 rfl
            have x_b8 := hS.cell 8 rfl
            have x_b10 := hS.cell 7 rfl
            have x_b12 := hS.cell 6 rfl
            have x_b14 := hS.cell 5 rfl
            have x_b16 := hS.cell 4 rfl
            have x_b18 := hS.cell 3 rfl
            have x_b20 := hS.cell 2 rfl
            have x_b22 := hS.cell 1 rfl
            have x_b24 := hS.cell 0 rfl
            go_wp2
            try clear x_b3
            try clear x_b4
            try clear x_b6
            try clear x_b8
            try clear x_b10
            try clear x_b12
            try clear x_b14
            try clear x_b16
            try clear x_b18
            try clear x_b20
            try clear x_b22
            try clear x_b24
            replace hS := hS.drew
            refine wp_region_held_drew (S := (fun w' => w'.cell? ⟨w23.heap.size, 0, none⟩ = some (.int .i64 M.k) ∧ w'.cell? ⟨w23.heap.size, 1, none⟩ = some (.int .i64 M.n) ∧ w'.cell? ⟨w23.heap.size, 2, none⟩ = some (.string M.s) ∧ w'.cell? ⟨w2.heap.size, 0, none⟩ = some (.int .i64 1) ∧ w'.cell? ⟨w2.heap.size, 1, none⟩ = some (.int .i64 an) ∧ w'.cell? ⟨w2.heap.size, 2, none⟩ = some (.string az) ∧ w'.cell? ⟨w2.heap.size + 1, 0, none⟩ = some (.int .i64 1) ∧ w'.cell? ⟨w2.heap.size + 1, 1, none⟩ = some (.int .i64 bn) ∧ w'.cell? ⟨w2.heap.size + 1, 2, none⟩ = some (.string bz))) (by kernel_rfl) (⟨hS.cell 0 rfl 0, hS.cell 0 rfl 1, hS.cell 0 rfl 2, hS.cell 11 rfl 0, hS.cell 11 rfl 1, hS.cell 11 rfl 2, hS.cell 10 rfl 0, hS.cell 10 rfl 1, hS.cell 10 rfl 2⟩) (fun hHeld => ?_)
            first | (refine regW 0 (v := ?_) rfl (by rfl) (by kernel_rfl) (fun _ _ _ h => h) ?_ (by assumption) ?_; rotate_left; focus (intro w9 hSw; (try dsimp only at hSw); go_simp; (try with_reducible rfl); done)) | refine regU 0 rfl (by rfl) (by kernel_rfl) (fun _ _ _ h => h) (by assumption) ?_ | refine regN 0 rfl (by rfl) (by kernel_rfl) (by assumption) ?_
            try simp only [Act.put, List.setIfInBounds_toArray, List.set_cons_zero, List.set_cons_succ]
            first | (refine regW 1 (v := ?_) rfl (by rfl) (by kernel_rfl) (fun _ _ _ h => h) ?_ (by assumption) ?_; rotate_left; focus (intro w9 hSw; (try dsimp only at hSw); go_simp; (try with_reducible rfl); done)) | refine regU 1 rfl (by rfl) (by kernel_rfl) (fun _ _ _ h => h) (by assumption) ?_ | refine regN 1 rfl (by rfl) (by kernel_rfl) (by assumption) ?_
            try simp only [Act.put, List.setIfInBounds_toArray, List.set_cons_zero, List.set_cons_succ]
            first | (refine regW 2 (v := ?_) rfl (by rfl) (by kernel_rfl) (fun _ _ _ h => h) ?_ (by assumption) ?_; rotate_left; focus (intro w9 hSw; (try dsimp only at hSw); go_simp; (try with_reducible rfl); done)) | refine regU 2 rfl (by rfl) (by kernel_rfl) (fun _ _ _ h => h) (by assumption) ?_ | refine regN 2 rfl (by rfl) (by kernel_rfl) (by assumption) ?_
            try simp only [Act.put, List.setIfInBounds_toArray, List.set_cons_zero, List.set_cons_succ]
            first | (refine regW 3 (v := ?_) rfl (by rfl) (by kernel_rfl) (fun _ _ _ h => h) ?_ (by assumption) ?_; rotate_left; focus (intro w9 hSw; (try dsimp only at hSw); go_simp; (try with_reducible rfl); done)) | refine regU 3 rfl (by rfl) (by kernel_rfl) (fun _ _ _ h => h) (by assumption) ?_ | refine regN 3 rfl (by rfl) (by kernel_rfl) (by assumption) ?_
            try simp only [Act.put, List.setIfInBounds_toArray, List.set_cons_zero, List.set_cons_succ]
            first | (refine regW 4 (v := ?_) rfl (by rfl) (by kernel_rfl) (fun _ _ _ h => h) ?_ (by assumption) ?_; rotate_left; focus (intro w9 hSw; (try dsimp only at hSw); go_simp; (try with_reducible rfl); done)) | refine regU 4 rfl (by rfl) (by kernel_rfl) (fun _ _ _ h => h) (by assumption) ?_ | refine regN 4 rfl (by rfl) (by kernel_rfl) (by assumption) ?_
            try simp only [Act.put, List.setIfInBounds_toArray, List.set_cons_zero, List.set_cons_succ]
            first | (refine regW 5 (v := ?_) rfl (by rfl) (by kernel_rfl) (fun _ _ _ h => h) ?_ (by assumption) ?_; rotate_left; focus (intro w9 hSw; (try dsimp only at hSw); go_simp; (try with_reducible rfl); done)) | refine regU 5 rfl (by rfl) (by kernel_rfl) (fun _ _ _ h => h) (by assumption) ?_ | refine regN 5 rfl (by rfl) (by kernel_rfl) (by assumption) ?_
            try simp only [Act.put, List.setIfInBounds_toArray, List.set_cons_zero, List.set_cons_succ]
            first | (refine regW 6 (v := ?_) rfl (by rfl) (by kernel_rfl) (fun _ _ _ h => h) ?_ (by assumption) ?_; rotate_left; focus (intro w9 hSw; (try dsimp only at hSw); go_simp; (try with_reducible rfl); done)) | refine regU 6 rfl (by rfl) (by kernel_rfl) (fun _ _ _ h => h) (by assumption) ?_ | refine regN 6 rfl (by rfl) (by kernel_rfl) (by assumption) ?_
            try simp only [Act.put, List.setIfInBounds_toArray, List.set_cons_zero, List.set_cons_succ]
            refine regC 7 rfl (by kernel_rfl) (by rfl) (fun Kq hKq => ?_)
            go_simp
            (with_reducible refine (DS _).mono ?_)
            rintro e w25 ⟨rfl, hb⟩; replace hS := hS.step hb; clear hb
            try go_wp2_with fail
            refine hKq.out _ _ (⟨hS.cell 0 rfl 0, hS.cell 0 rfl 1, hS.cell 0 rfl 2, hS.cell 11 rfl 0, hS.cell 11 rfl 1, hS.cell 11 rfl 2, hS.cell 10 rfl 0, hS.cell 10 rfl 1, hS.cell 10 rfl 2⟩) (fun hHeld => ?_)
            clear hKq Kq
            (try simp only [Act.put, List.setIfInBounds_toArray, List.set_cons_zero, List.set_cons_succ])
            first | (refine regW 8 (v := ?_) rfl (by rfl) (by kernel_rfl) (fun _ _ _ h => h) ?_ (by assumption) ?_; rotate_left; focus (intro w9 hSw; (try dsimp only at hSw); go_simp; (try with_reducible rfl); done)) | refine regU 8 rfl (by rfl) (by kernel_rfl) (fun _ _ _ h => h) (by assumption) ?_ | refine regN 8 rfl (by rfl) (by kernel_rfl) (by assumption) ?_
            try simp only [Act.put, List.setIfInBounds_toArray, List.set_cons_zero, List.set_cons_succ]
            first | (refine regW 9 (v := ?_) rfl (by rfl) (by kernel_rfl) (fun _ _ _ h => h) ?_ (by assumption) ?_; rotate_left; focus (intro w9 hSw; (try dsimp only at hSw); go_simp; (try with_reducible rfl); done)) | refine regU 9 rfl (by rfl) (by kernel_rfl) (fun _ _ _ h => h) (by assumption) ?_ | refine regN 9 rfl (by rfl) (by kernel_rfl) (by assumption) ?_
            try simp only [Act.put, List.setIfInBounds_toArray, List.set_cons_zero, List.set_cons_succ]
            first | (refine regW 10 (v := ?_) rfl (by rfl) (by kernel_rfl) (fun _ _ _ h => h) ?_ (by assumption) ?_; rotate_left; focus (intro w9 hSw; (try dsimp only at hSw); go_simp; (try with_reducible rfl); done)) | refine regU 10 rfl (by rfl) (by kernel_rfl) (fun _ _ _ h => h) (by assumption) ?_ | refine regN 10 rfl (by rfl) (by kernel_rfl) (by assumption) ?_
            try simp only [Act.put, List.setIfInBounds_toArray, List.set_cons_zero, List.set_cons_succ]
            first | (refine regW 11 (v := ?_) rfl (by rfl) (by kernel_rfl) (fun _ _ _ h => h) ?_ (by assumption) ?_; rotate_left; focus (intro w9 hSw; (try dsimp only at hSw); go_simp; (try with_reducible rfl); done)) | refine regU 11 rfl (by rfl) (by kernel_rfl) (fun _ _ _ h => h) (by assumption) ?_ | refine regN 11 rfl (by rfl) (by kernel_rfl) (by assumption) ?_
            try simp only [Act.put, List.setIfInBounds_toArray, List.set_cons_zero, List.set_cons_succ]
            first | (refine regW 12 (v := ?_) rfl (by rfl) (by kernel_rfl) (fun _ _ _ h => h) ?_ (by assumption) ?_; rotate_left; focus (intro w9 hSw; (try dsimp only at hSw); go_simp; (try with_reducible rfl); done)) | refine regU 12 rfl (by rfl) (by kernel_rfl) (fun _ _ _ h => h) (by assumption) ?_ | refine regN 12 rfl (by rfl) (by kernel_rfl) (by assumption) ?_
            try simp only [Act.put, List.setIfInBounds_toArray, List.set_cons_zero, List.set_cons_succ]
            first | (refine regW 13 (v := ?_) rfl (by rfl) (by kernel_rfl) (fun _ _ _ h => h) ?_ (by assumption) ?_; rotate_left; focus (intro w9 hSw; (try dsimp only at hSw); go_simp; (try with_reducible rfl); done)) | refine regU 13 rfl (by rfl) (by kernel_rfl) (fun _ _ _ h => h) (by assumption) ?_ | refine regN 13 rfl (by rfl) (by kernel_rfl) (by assumption) ?_
            try simp only [Act.put, List.setIfInBounds_toArray, List.set_cons_zero, List.set_cons_succ]
            refine regC 14 rfl (by kernel_rfl) (by rfl) (fun Kq hKq => ?_)
            go_simp
            (with_reducible refine (CT _).mono ?_)
            rintro e w26 ⟨rfl, hb⟩; replace hS := hS.step hb; clear hb
            try go_wp2_with fail
            refine hKq.out _ _ (⟨hS.cell 0 rfl 0, hS.cell 0 rfl 1, hS.cell 0 rfl 2, hS.cell 11 rfl 0, hS.cell 11 rfl 1, hS.cell 11 rfl 2, hS.cell 10 rfl 0, hS.cell 10 rfl 1, hS.cell 10 rfl 2⟩) (fun hHeld => ?_)
            clear hKq Kq
            (try simp only [Act.put, List.setIfInBounds_toArray, List.set_cons_zero, List.set_cons_succ])
            first | (refine regW 15 (v := ?_) rfl (by rfl) (by kernel_rfl) (fun _ _ _ h => h) ?_ (by assumption) ?_; rotate_left; focus (intro w9 hSw; (try dsimp only at hSw); go_simp; (try with_reducible rfl); done)) | refine regU 15 rfl (by rfl) (by kernel_rfl) (fun _ _ _ h => h) (by assumption) ?_ | refine regN 15 rfl (by rfl) (by kernel_rfl) (by assumption) ?_
            try simp only [Act.put, List.setIfInBounds_toArray, List.set_cons_zero, List.set_cons_succ]
            first | (refine regW 16 (v := ?_) rfl (by rfl) (by kernel_rfl) (fun _ _ _ h => h) ?_ (by assumption) ?_; rotate_left; focus (intro w9 hSw; (try dsimp only at hSw); go_simp; (try with_reducible rfl); done)) | refine regU 16 rfl (by rfl) (by kernel_rfl) (fun _ _ _ h => h) (by assumption) ?_ | refine regN 16 rfl (by rfl) (by kernel_rfl) (by assumption) ?_
            try simp only [Act.put, List.setIfInBounds_toArray, List.set_cons_zero, List.set_cons_succ]
            refine wpAnyH_done (by kernel_rfl) ?_ _
            clear hHeld
            have x_b3 := hS.cell 11 rfl
            have x_b4 := hS.cell 10 rfl
            have x_b6 := hS.cell 9 rfl
            have x_b8 := hS.cell 8 rfl
            have x_b10 := hS.cell 7 rfl
            have x_b12 := hS.cell 6 rfl
            have x_b14 := hS.cell 5 rfl
            have x_b16 := hS.cell 4 rfl
            have x_b18 := hS.cell 3 rfl
            have x_b20 := hS.cell 2 rfl
            have x_b22 := hS.cell 1 rfl
            have x_b24 := hS.cell 0 rfl
            go_wp2_with fail
            refine (DL _).mono ?_
            rintro e w27 ⟨rfl, hb⟩
            try clear x_b3
            try clear x_b4
            try clear x_b6
            try clear x_b8
            try clear x_b10
            try clear x_b12
            try clear x_b14
            try clear x_b16
            try clear x_b18
            try clear x_b20
            try clear x_b22
            try clear x_b24
            replace hS := hS.step hb
            clear hb
            have x_b3 := hS.cell 11 rfl
            have x_b4 := hS.cell 10 rfl
            have x_b6 := hS.cell 9 rfl
            have x_b8 := hS.cell 8 rfl
            have x_b10 := hS.cell 7 rfl
            have x_b12 := hS.cell 6 rfl
            have x_b14 := hS.cell 5 rfl
            have x_b16 := hS.cell 4 rfl
            have x_b18 := hS.cell 3 rfl
            have x_b20 := hS.cell 2 rfl
            have x_b22 := hS.cell 1 rfl
            have x_b24 := hS.cell 0 rfl
            try clear x_b3
            try clear x_b4
            try clear x_b6
            try clear x_b8
            try clear x_b10
            try clear x_b12
            try clear x_b14
            try clear x_b16
            try clear x_b18
            try clear x_b20
            try clear x_b22
            try clear x_b24
            try clear x_b28
            replace hS := hS.made (.cells #[.int .i64 L.k, .int .i64 L.n, .string L.s] 25 (0, 0))
            have x_b3 := hS.cell 12 rfl
            have x_b4 := hS.cell 11 rfl
            have x_b6 := hS.cell 10 rfl
            have x_b8 := hS.cell 9 rfl
            have x_b10 := hS.cell 8 rfl
            have x_b12 := hS.cell 7 rfl
            have x_b14 := hS.cell 6 rfl
            have x_b16 := hS.cell 5 rfl
            have x_b18 := hS.cell 4 rfl
            have x_b20 := hS.cell 3 rfl
            have x_b22 := hS.cell 2 rfl
            have x_b24 := hS.cell 1 rfl
            have x_b28 := hS.cell 0 rfl
            go_wp2
            go_ret
            exact ⟨ret_bool (by first | rfl | (simp only [decide_eq_true_eq]; rw [IntWalk.i64_in (by omega) (by omega), IntWalk.i64_in (by omega) (by omega)]; omega) | simp_all), hS.bel⟩
        · skip
          go_wp2_with fail
          refine (CL _).mono ?_
          rintro e w19 ⟨rfl, hb⟩
          try clear x_b3
          try clear x_b4
          try clear x_b6
          try clear x_b8
          try clear x_b10
          try clear x_b12
          try clear x_b14
          try clear x_b16
          try clear x_b18
          replace hS := hS.step hb
          clear hb
          have x_b3 := hS.cell 8 rfl
          have x_b4 := hS.cell 7 rfl
          have x_b6 := hS.cell 6 rfl
          have x_b8 := hS.cell 5 rfl
          have x_b10 := hS.cell 4 rfl
          have x_b12 := hS.cell 3 rfl
          have x_b14 := hS.cell 2 rfl
          have x_b16 := hS.cell 1 rfl
          have x_b18 := hS.cell 0 rfl
          try clear x_b3
          try clear x_b4
          try clear x_b6
          try clear x_b8
          try clear x_b10
          try clear x_b12
          try clear x_b14
          try clear x_b16
          try clear x_b18
          try clear x_b20
          replace hS := hS.made (.cells #[.int .i64 L.k, .int .i64 L.n, .string L.s] 25 (0, 0))
          have x_b3 := hS.cell 9 rfl
          have x_b4 := hS.cell 8 rfl
          have x_b6 := hS.cell 7 rfl
          have x_b8 := hS.cell 6 rfl
          have x_b10 := hS.cell 5 rfl
          have x_b12 := hS.cell 4 rfl
          have x_b14 := hS.cell 3 rfl
          have x_b16 := hS.cell 2 rfl
          have x_b18 := hS.cell 1 rfl
          have x_b20 := hS.cell 0 rfl
          go_wp2_with fail
          refine (CG _).mono ?_
          rintro e w21 ⟨rfl, hb⟩
          try clear x_b3
          try clear x_b4
          try clear x_b6
          try clear x_b8
          try clear x_b10
          try clear x_b12
          try clear x_b14
          try clear x_b16
          try clear x_b18
          try clear x_b20
          replace hS := hS.step hb
          clear hb
          have x_b3 := hS.cell 9 rfl
          have x_b4 := hS.cell 8 rfl
          have x_b6 := hS.cell 7 rfl
          have x_b8 := hS.cell 6 rfl
          have x_b10 := hS.cell 5 rfl
          have x_b12 := hS.cell 4 rfl
          have x_b14 := hS.cell 3 rfl
          have x_b16 := hS.cell 2 rfl
          have x_b18 := hS.cell 1 rfl
          have x_b20 := hS.cell 0 rfl
          try clear x_b3
          try clear x_b4
          try clear x_b6
          try clear x_b8
          try clear x_b10
          try clear x_b12
          try clear x_b14
          try clear x_b16
          try clear x_b18
          try clear x_b20
          try clear x_b22
          replace hS := hS.made (.cells #[.int .i64 G.k, .int .i64 G.n, .string G.s] 25 (0, 0))
          have x_b3 := hS.cell 10 rfl
          have x_b4 := hS.cell 9 rfl
          have x_b6 := hS.cell 8 rfl
          have x_b8 := hS.cell 7 rfl
          have x_b10 := hS.cell 6 rfl
          have x_b12 := hS.cell 5 rfl
          have x_b14 := hS.cell 4 rfl
          have x_b16 := hS.cell 3 rfl
          have x_b18 := hS.cell 2 rfl
          have x_b20 := hS.cell 1 rfl
          have x_b22 := hS.cell 0 rfl
          go_wp2_with fail
          refine (CS _).mono ?_
          rintro e w23 ⟨rfl, hb⟩
          try clear x_b3
          try clear x_b4
          try clear x_b6
          try clear x_b8
          try clear x_b10
          try clear x_b12
          try clear x_b14
          try clear x_b16
          try clear x_b18
          try clear x_b20
          try clear x_b22
          replace hS := hS.step hb
          clear hb
          have x_b3 := hS.cell 10 rfl
          have x_b4 := hS.cell 9 rfl
          have x_b6 := hS.cell 8 rfl
          have x_b8 := hS.cell 7 rfl
          have x_b10 := hS.cell 6 rfl
          have x_b12 := hS.cell 5 rfl
          have x_b14 := hS.cell 4 rfl
          have x_b16 := hS.cell 3 rfl
          have x_b18 := hS.cell 2 rfl
          have x_b20 := hS.cell 1 rfl
          have x_b22 := hS.cell 0 rfl
          try clear x_b3
          try clear x_b4
          try clear x_b6
          try clear x_b8
          try clear x_b10
          try clear x_b12
          try clear x_b14
          try clear x_b16
          try clear x_b18
          try clear x_b20
          try clear x_b22
          try clear x_b24
          replace hS := hS.made (.cells #[.int .i64 M.k, .int .i64 M.n, .string M.s] 25 (0, 0))
          have x_b3 := hS.cell 11 rfl
          have x_b4 := hS.cell 10 rfl
          have x_b6 := hS.cell 9 rfl
          have x_b8 := hS.cell 8 rfl
          have x_b10 := hS.cell 7 rfl
          have x_b12 := hS.cell 6 rfl
          have x_b14 := hS.cell 5 rfl
          have x_b16 := hS.cell 4 rfl
          have x_b18 := hS.cell 3 rfl
          have x_b20 := hS.cell 2 rfl
          have x_b22 := hS.cell 1 rfl
          have x_b24 := hS.cell 0 rfl
          go_wp2
          try clear x_b3
          try clear x_b4
          try clear x_b6
          try clear x_b8
          try clear x_b10
          try clear x_b12
          try clear x_b14
          try clear x_b16
          try clear x_b18
          try clear x_b20
          try clear x_b22
          try clear x_b24
          replace hS := hS.drew
          refine wp_region_held_drew (S := (fun w' => w'.cell? ⟨w23.heap.size, 0, none⟩ = some (.int .i64 M.k) ∧ w'.cell? ⟨w23.heap.size, 1, none⟩ = some (.int .i64 M.n) ∧ w'.cell? ⟨w23.heap.size, 2, none⟩ = some (.string M.s) ∧ w'.cell? ⟨w2.heap.size, 0, none⟩ = some (.int .i64 1) ∧ w'.cell? ⟨w2.heap.size, 1, none⟩ = some (.int .i64 an) ∧ w'.cell? ⟨w2.heap.size, 2, none⟩ = some (.string az) ∧ w'.cell? ⟨w2.heap.size + 1, 0, none⟩ = some (.int .i64 1) ∧ w'.cell? ⟨w2.heap.size + 1, 1, none⟩ = some (.int .i64 bn) ∧ w'.cell? ⟨w2.heap.size + 1, 2, none⟩ = some (.string bz))) (by kernel_rfl) (⟨hS.cell 0 rfl 0, hS.cell 0 rfl 1, hS.cell 0 rfl 2, hS.cell 11 rfl 0, hS.cell 11 rfl 1, hS.cell 11 rfl 2, hS.cell 10 rfl 0, hS.cell 10 rfl 1, hS.cell 10 rfl 2⟩) (fun hHeld => ?_)
          first | (refine regW 0 (v := ?_) rfl (by rfl) (by kernel_rfl) (fun _ _ _ h => h) ?_ (by assumption) ?_; rotate_left; focus (intro w9 hSw; (try dsimp only at hSw); go_simp; (try with_reducible rfl); done)) | refine regU 0 rfl (by rfl) (by kernel_rfl) (fun _ _ _ h => h) (by assumption) ?_ | refine regN 0 rfl (by rfl) (by kernel_rfl) (by assumption) ?_
          try simp only [Act.put, List.setIfInBounds_toArray, List.set_cons_zero, List.set_cons_succ]
          first | (refine regW 1 (v := ?_) rfl (by rfl) (by kernel_rfl) (fun _ _ _ h => h) ?_ (by assumption) ?_; rotate_left; focus (intro w9 hSw; (try dsimp only at hSw); go_simp; (try with_reducible rfl); done)) | refine regU 1 rfl (by rfl) (by kernel_rfl) (fun _ _ _ h => h) (by assumption) ?_ | refine regN 1 rfl (by rfl) (by kernel_rfl) (by assumption) ?_
          try simp only [Act.put, List.setIfInBounds_toArray, List.set_cons_zero, List.set_cons_succ]
          first | (refine regW 2 (v := ?_) rfl (by rfl) (by kernel_rfl) (fun _ _ _ h => h) ?_ (by assumption) ?_; rotate_left; focus (intro w9 hSw; (try dsimp only at hSw); go_simp; (try with_reducible rfl); done)) | refine regU 2 rfl (by rfl) (by kernel_rfl) (fun _ _ _ h => h) (by assumption) ?_ | refine regN 2 rfl (by rfl) (by kernel_rfl) (by assumption) ?_
          try simp only [Act.put, List.setIfInBounds_toArray, List.set_cons_zero, List.set_cons_succ]
          first | (refine regW 3 (v := ?_) rfl (by rfl) (by kernel_rfl) (fun _ _ _ h => h) ?_ (by assumption) ?_; rotate_left; focus (intro w9 hSw; (try dsimp only at hSw); go_simp; (try with_reducible rfl); done)) | refine regU 3 rfl (by rfl) (by kernel_rfl) (fun _ _ _ h => h) (by assumption) ?_ | refine regN 3 rfl (by rfl) (by kernel_rfl) (by assumption) ?_
          try simp only [Act.put, List.setIfInBounds_toArray, List.set_cons_zero, List.set_cons_succ]
          first | (refine regW 4 (v := ?_) rfl (by rfl) (by kernel_rfl) (fun _ _ _ h => h) ?_ (by assumption) ?_; rotate_left; focus (intro w9 hSw; (try dsimp only at hSw); go_simp; (try with_reducible rfl); done)) | refine regU 4 rfl (by rfl) (by kernel_rfl) (fun _ _ _ h => h) (by assumption) ?_ | refine regN 4 rfl (by rfl) (by kernel_rfl) (by assumption) ?_
          try simp only [Act.put, List.setIfInBounds_toArray, List.set_cons_zero, List.set_cons_succ]
          first | (refine regW 5 (v := ?_) rfl (by rfl) (by kernel_rfl) (fun _ _ _ h => h) ?_ (by assumption) ?_; rotate_left; focus (intro w9 hSw; (try dsimp only at hSw); go_simp; (try with_reducible rfl); done)) | refine regU 5 rfl (by rfl) (by kernel_rfl) (fun _ _ _ h => h) (by assumption) ?_ | refine regN 5 rfl (by rfl) (by kernel_rfl) (by assumption) ?_
          try simp only [Act.put, List.setIfInBounds_toArray, List.set_cons_zero, List.set_cons_succ]
          first | (refine regW 6 (v := ?_) rfl (by rfl) (by kernel_rfl) (fun _ _ _ h => h) ?_ (by assumption) ?_; rotate_left; focus (intro w9 hSw; (try dsimp only at hSw); go_simp; (try with_reducible rfl); done)) | refine regU 6 rfl (by rfl) (by kernel_rfl) (fun _ _ _ h => h) (by assumption) ?_ | refine regN 6 rfl (by rfl) (by kernel_rfl) (by assumption) ?_
          try simp only [Act.put, List.setIfInBounds_toArray, List.set_cons_zero, List.set_cons_succ]
          refine regC 7 rfl (by kernel_rfl) (by rfl) (fun Kq hKq => ?_)
          go_simp
          (with_reducible refine (DS _).mono ?_)
          rintro e w25 ⟨rfl, hb⟩; replace hS := hS.step hb; clear hb
          try go_wp2_with fail
          refine hKq.out _ _ (⟨hS.cell 0 rfl 0, hS.cell 0 rfl 1, hS.cell 0 rfl 2, hS.cell 11 rfl 0, hS.cell 11 rfl 1, hS.cell 11 rfl 2, hS.cell 10 rfl 0, hS.cell 10 rfl 1, hS.cell 10 rfl 2⟩) (fun hHeld => ?_)
          clear hKq Kq
          (try simp only [Act.put, List.setIfInBounds_toArray, List.set_cons_zero, List.set_cons_succ])
          first | (refine regW 8 (v := ?_) rfl (by rfl) (by kernel_rfl) (fun _ _ _ h => h) ?_ (by assumption) ?_; rotate_left; focus (intro w9 hSw; (try dsimp only at hSw); go_simp; (try with_reducible rfl); done)) | refine regU 8 rfl (by rfl) (by kernel_rfl) (fun _ _ _ h => h) (by assumption) ?_ | refine regN 8 rfl (by rfl) (by kernel_rfl) (by assumption) ?_
          try simp only [Act.put, List.setIfInBounds_toArray, List.set_cons_zero, List.set_cons_succ]
          first | (refine regW 9 (v := ?_) rfl (by rfl) (by kernel_rfl) (fun _ _ _ h => h) ?_ (by assumption) ?_; rotate_left; focus (intro w9 hSw; (try dsimp only at hSw); go_simp; (try with_reducible rfl); done)) | refine regU 9 rfl (by rfl) (by kernel_rfl) (fun _ _ _ h => h) (by assumption) ?_ | refine regN 9 rfl (by rfl) (by kernel_rfl) (by assumption) ?_
          try simp only [Act.put, List.setIfInBounds_toArray, List.set_cons_zero, List.set_cons_succ]
          first | (refine regW 10 (v := ?_) rfl (by rfl) (by kernel_rfl) (fun _ _ _ h => h) ?_ (by assumption) ?_; rotate_left; focus (intro w9 hSw; (try dsimp only at hSw); go_simp; (try with_reducible rfl); done)) | refine regU 10 rfl (by rfl) (by kernel_rfl) (fun _ _ _ h => h) (by assumption) ?_ | refine regN 10 rfl (by rfl) (by kernel_rfl) (by assumption) ?_
          try simp only [Act.put, List.setIfInBounds_toArray, List.set_cons_zero, List.set_cons_succ]
          first | (refine regW 11 (v := ?_) rfl (by rfl) (by kernel_rfl) (fun _ _ _ h => h) ?_ (by assumption) ?_; rotate_left; focus (intro w9 hSw; (try dsimp only at hSw); go_simp; (try with_reducible rfl); done)) | refine regU 11 rfl (by rfl) (by kernel_rfl) (fun _ _ _ h => h) (by assumption) ?_ | refine regN 11 rfl (by rfl) (by kernel_rfl) (by assumption) ?_
          try simp only [Act.put, List.setIfInBounds_toArray, List.set_cons_zero, List.set_cons_succ]
          first | (refine regW 12 (v := ?_) rfl (by rfl) (by kernel_rfl) (fun _ _ _ h => h) ?_ (by assumption) ?_; rotate_left; focus (intro w9 hSw; (try dsimp only at hSw); go_simp; (try with_reducible rfl); done)) | refine regU 12 rfl (by rfl) (by kernel_rfl) (fun _ _ _ h => h) (by assumption) ?_ | refine regN 12 rfl (by rfl) (by kernel_rfl) (by assumption) ?_
          try simp only [Act.put, List.setIfInBounds_toArray, List.set_cons_zero, List.set_cons_succ]
          first | (refine regW 13 (v := ?_) rfl (by rfl) (by kernel_rfl) (fun _ _ _ h => h) ?_ (by assumption) ?_; rotate_left; focus (intro w9 hSw; (try dsimp only at hSw); go_simp; (try with_reducible rfl); done)) | refine regU 13 rfl (by rfl) (by kernel_rfl) (fun _ _ _ h => h) (by assumption) ?_ | refine regN 13 rfl (by rfl) (by kernel_rfl) (by assumption) ?_
          try simp only [Act.put, List.setIfInBounds_toArray, List.set_cons_zero, List.set_cons_succ]
          refine regC 14 rfl (by kernel_rfl) (by rfl) (fun Kq hKq => ?_)
          go_simp
          (with_reducible refine (CT _).mono ?_)
          rintro e w26 ⟨rfl, hb⟩; replace hS := hS.step hb; clear hb
          try go_wp2_with fail
          refine hKq.out _ _ (⟨hS.cell 0 rfl 0, hS.cell 0 rfl 1, hS.cell 0 rfl 2, hS.cell 11 rfl 0, hS.cell 11 rfl 1, hS.cell 11 rfl 2, hS.cell 10 rfl 0, hS.cell 10 rfl 1, hS.cell 10 rfl 2⟩) (fun hHeld => ?_)
          clear hKq Kq
          (try simp only [Act.put, List.setIfInBounds_toArray, List.set_cons_zero, List.set_cons_succ])
          first | (refine regW 15 (v := ?_) rfl (by rfl) (by kernel_rfl) (fun _ _ _ h => h) ?_ (by assumption) ?_; rotate_left; focus (intro w9 hSw; (try dsimp only at hSw); go_simp; (try with_reducible rfl); done)) | refine regU 15 rfl (by rfl) (by kernel_rfl) (fun _ _ _ h => h) (by assumption) ?_ | refine regN 15 rfl (by rfl) (by kernel_rfl) (by assumption) ?_
          try simp only [Act.put, List.setIfInBounds_toArray, List.set_cons_zero, List.set_cons_succ]
          first | (refine regW 16 (v := ?_) rfl (by rfl) (by kernel_rfl) (fun _ _ _ h => h) ?_ (by assumption) ?_; rotate_left; focus (intro w9 hSw; (try dsimp only at hSw); go_simp; (try with_reducible rfl); done)) | refine regU 16 rfl (by rfl) (by kernel_rfl) (fun _ _ _ h => h) (by assumption) ?_ | refine regN 16 rfl (by rfl) (by kernel_rfl) (by assumption) ?_
          try simp only [Act.put, List.setIfInBounds_toArray, List.set_cons_zero, List.set_cons_succ]
          refine wpAnyH_done (by kernel_rfl) ?_ _
          clear hHeld
          have x_b3 := hS.cell 11 rfl
          have x_b4 := hS.cell 10 rfl
          have x_b6 := hS.cell 9 rfl
          have x_b8 := hS.cell 8 rfl
          have x_b10 := hS.cell 7 rfl
          have x_b12 := hS.cell 6 rfl
          have x_b14 := hS.cell 5 rfl
          have x_b16 := hS.cell 4 rfl
          have x_b18 := hS.cell 3 rfl
          have x_b20 := hS.cell 2 rfl
          have x_b22 := hS.cell 1 rfl
          have x_b24 := hS.cell 0 rfl
          go_wp2_with fail
          refine (DL _).mono ?_
          rintro e w27 ⟨rfl, hb⟩
          try clear x_b3
          try clear x_b4
          try clear x_b6
          try clear x_b8
          try clear x_b10
          try clear x_b12
          try clear x_b14
          try clear x_b16
          try clear x_b18
          try clear x_b20
          try clear x_b22
          try clear x_b24
          replace hS := hS.step hb
          clear hb
          have x_b3 := hS.cell 11 rfl
          have x_b4 := hS.cell 10 rfl
          have x_b6 := hS.cell 9 rfl
          have x_b8 := hS.cell 8 rfl
          have x_b10 := hS.cell 7 rfl
          have x_b12 := hS.cell 6 rfl
          have x_b14 := hS.cell 5 rfl
          have x_b16 := hS.cell 4 rfl
          have x_b18 := hS.cell 3 rfl
          have x_b20 := hS.cell 2 rfl
          have x_b22 := hS.cell 1 rfl
          have x_b24 := hS.cell 0 rfl
          try clear x_b3
          try clear x_b4
          try clear x_b6
          try clear x_b8
          try clear x_b10
          try clear x_b12
          try clear x_b14
          try clear x_b16
          try clear x_b18
          try clear x_b20
          try clear x_b22
          try clear x_b24
          try clear x_b28
          replace hS := hS.made (.cells #[.int .i64 L.k, .int .i64 L.n, .string L.s] 25 (0, 0))
          have x_b3 := hS.cell 12 rfl
          have x_b4 := hS.cell 11 rfl
          have x_b6 := hS.cell 10 rfl
          have x_b8 := hS.cell 9 rfl
          have x_b10 := hS.cell 8 rfl
          have x_b12 := hS.cell 7 rfl
          have x_b14 := hS.cell 6 rfl
          have x_b16 := hS.cell 5 rfl
          have x_b18 := hS.cell 4 rfl
          have x_b20 := hS.cell 3 rfl
          have x_b22 := hS.cell 2 rfl
          have x_b24 := hS.cell 1 rfl
          have x_b28 := hS.cell 0 rfl
          go_wp2
          go_ret
          exact ⟨ret_bool (by first | rfl | (simp only [decide_eq_true_eq]; rw [IntWalk.i64_in (by omega) (by omega), IntWalk.i64_in (by omega) (by omega)]; omega) | simp_all), hS.bel⟩
      · skip
        go_wp2_with fail
        refine (CL _).mono ?_
        rintro e w19 ⟨rfl, hb⟩
        try clear x_b3
        try clear x_b4
        try clear x_b6
        try clear x_b8
        try clear x_b10
        try clear x_b12
        try clear x_b14
        try clear x_b16
        try clear x_b18
        replace hS := hS.step hb
        clear hb
        have x_b3 := hS.cell 8 rfl
        have x_b4 := hS.cell 7 rfl
        have x_b6 := hS.cell 6 rfl
        have x_b8 := hS.cell 5 rfl
        have x_b10 := hS.cell 4 rfl
        have x_b12 := hS.cell 3 rfl
        have x_b14 := hS.cell 2 rfl
        have x_b16 := hS.cell 1 rfl
        have x_b18 := hS.cell 0 rfl
        try clear x_b3
        try clear x_b4
        try clear x_b6
        try clear x_b8
        try clear x_b10
        try clear x_b12
        try clear x_b14
        try clear x_b16
        try clear x_b18
        try clear x_b20
        replace hS := hS.made (.cells #[.int .i64 L.k, .int .i64 L.n, .string L.s] 25 (0, 0))
        have x_b3 := hS.cell 9 rfl
        have x_b4 := hS.cell 8 rfl
        have x_b6 := hS.cell 7 rfl
        have x_b8 := hS.cell 6 rfl
        have x_b10 := hS.cell 5 rfl
        have x_b12 := hS.cell 4 rfl
        have x_b14 := hS.cell 3 rfl
        have x_b16 := hS.cell 2 rfl
        have x_b18 := hS.cell 1 rfl
        have x_b20 := hS.cell 0 rfl
        go_wp2_with fail
        refine (CG _).mono ?_
        rintro e w21 ⟨rfl, hb⟩
        try clear x_b3
        try clear x_b4
        try clear x_b6
        try clear x_b8
        try clear x_b10
        try clear x_b12
        try clear x_b14
        try clear x_b16
        try clear x_b18
        try clear x_b20
        replace hS := hS.step hb
        clear hb
        have x_b3 := hS.cell 9 rfl
        have x_b4 := hS.cell 8 rfl
        have x_b6 := hS.cell 7 rfl
        have x_b8 := hS.cell 6 rfl
        have x_b10 := hS.cell 5 rfl
        have x_b12 := hS.cell 4 rfl
        have x_b14 := hS.cell 3 rfl
        have x_b16 := hS.cell 2 rfl
        have x_b18 := hS.cell 1 rfl
        have x_b20 := hS.cell 0 rfl
        try clear x_b3
        try clear x_b4
        try clear x_b6
        try clear x_b8
        try clear x_b10
        try clear x_b12
        try clear x_b14
        try clear x_b16
        try clear x_b18
        try clear x_b20
        try clear x_b22
        replace hS := hS.made (.cells #[.int .i64 G.k, .int .i64 G.n, .string G.s] 25 (0, 0))
        have x_b3 := hS.cell 10 rfl
        have x_b4 := hS.cell 9 rfl
        have x_b6 := hS.cell 8 rfl
        have x_b8 := hS.cell 7 rfl
        have x_b10 := hS.cell 6 rfl
        have x_b12 := hS.cell 5 rfl
        have x_b14 := hS.cell 4 rfl
        have x_b16 := hS.cell 3 rfl
        have x_b18 := hS.cell 2 rfl
        have x_b20 := hS.cell 1 rfl
        have x_b22 := hS.cell 0 rfl
        go_wp2_with fail
        refine (CS _).mono ?_
        rintro e w23 ⟨rfl, hb⟩
        try clear x_b3
        try clear x_b4
        try clear x_b6
        try clear x_b8
        try clear x_b10
        try clear x_b12
        try clear x_b14
        try clear x_b16
        try clear x_b18
        try clear x_b20
        try clear x_b22
        replace hS := hS.step hb
        clear hb
        have x_b3 := hS.cell 10 rfl
        have x_b4 := hS.cell 9 rfl
        have x_b6 := hS.cell 8 rfl
        have x_b8 := hS.cell 7 rfl
        have x_b10 := hS.cell 6 rfl
        have x_b12 := hS.cell 5 rfl
        have x_b14 := hS.cell 4 rfl
        have x_b16 := hS.cell 3 rfl
        have x_b18 := hS.cell 2 rfl
        have x_b20 := hS.cell 1 rfl
        have x_b22 := hS.cell 0 rfl
        try clear x_b3
        try clear x_b4
        try clear x_b6
        try clear x_b8
        try clear x_b10
        try clear x_b12
        try clear x_b14
        try clear x_b16
        try clear x_b18
        try clear x_b20
        try clear x_b22
        try clear x_b24
        replace hS := hS.made (.cells #[.int .i64 M.k, .int .i64 M.n, .string M.s] 25 (0, 0))
        have x_b3 := hS.cell 11 rfl
        have x_b4 := hS.cell 10 rfl
        have x_b6 := hS.cell 9 rfl
        have x_b8 := hS.cell 8 rfl
        have x_b10 := hS.cell 7 rfl
        have x_b12 := hS.cell 6 rfl
        have x_b14 := hS.cell 5 rfl
        have x_b16 := hS.cell 4 rfl
        have x_b18 := hS.cell 3 rfl
        have x_b20 := hS.cell 2 rfl
        have x_b22 := hS.cell 1 rfl
        have x_b24 := hS.cell 0 rfl
        go_wp2
        try clear x_b3
        try clear x_b4
        try clear x_b6
        try clear x_b8
        try clear x_b10
        try clear x_b12
        try clear x_b14
        try clear x_b16
        try clear x_b18
        try clear x_b20
        try clear x_b22
        try clear x_b24
        replace hS := hS.drew
        refine wp_region_held_drew (S := (fun w' => w'.cell? ⟨w23.heap.size, 0, none⟩ = some (.int .i64 M.k) ∧ w'.cell? ⟨w23.heap.size, 1, none⟩ = some (.int .i64 M.n) ∧ w'.cell? ⟨w23.heap.size, 2, none⟩ = some (.string M.s) ∧ w'.cell? ⟨w2.heap.size, 0, none⟩ = some (.int .i64 1) ∧ w'.cell? ⟨w2.heap.size, 1, none⟩ = some (.int .i64 an) ∧ w'.cell? ⟨w2.heap.size, 2, none⟩ = some (.string az) ∧ w'.cell? ⟨w2.heap.size + 1, 0, none⟩ = some (.int .i64 1) ∧ w'.cell? ⟨w2.heap.size + 1, 1, none⟩ = some (.int .i64 bn) ∧ w'.cell? ⟨w2.heap.size + 1, 2, none⟩ = some (.string bz))) (by kernel_rfl) (⟨hS.cell 0 rfl 0, hS.cell 0 rfl 1, hS.cell 0 rfl 2, hS.cell 11 rfl 0, hS.cell 11 rfl 1, hS.cell 11 rfl 2, hS.cell 10 rfl 0, hS.cell 10 rfl 1, hS.cell 10 rfl 2⟩) (fun hHeld => ?_)
        first | (refine regW 0 (v := ?_) rfl (by rfl) (by kernel_rfl) (fun _ _ _ h => h) ?_ (by assumption) ?_; rotate_left; focus (intro w9 hSw; (try dsimp only at hSw); go_simp; (try with_reducible rfl); done)) | refine regU 0 rfl (by rfl) (by kernel_rfl) (fun _ _ _ h => h) (by assumption) ?_ | refine regN 0 rfl (by rfl) (by kernel_rfl) (by assumption) ?_
        try simp only [Act.put, List.setIfInBounds_toArray, List.set_cons_zero, List.set_cons_succ]
        first | (refine regW 1 (v := ?_) rfl (by rfl) (by kernel_rfl) (fun _ _ _ h => h) ?_ (by assumption) ?_; rotate_left; focus (intro w9 hSw; (try dsimp only at hSw); go_simp; (try with_reducible rfl); done)) | refine regU 1 rfl (by rfl) (by kernel_rfl) (fun _ _ _ h => h) (by assumption) ?_ | refine regN 1 rfl (by rfl) (by kernel_rfl) (by assumption) ?_
        try simp only [Act.put, List.setIfInBounds_toArray, List.set_cons_zero, List.set_cons_succ]
        first | (refine regW 2 (v := ?_) rfl (by rfl) (by kernel_rfl) (fun _ _ _ h => h) ?_ (by assumption) ?_; rotate_left; focus (intro w9 hSw; (try dsimp only at hSw); go_simp; (try with_reducible rfl); done)) | refine regU 2 rfl (by rfl) (by kernel_rfl) (fun _ _ _ h => h) (by assumption) ?_ | refine regN 2 rfl (by rfl) (by kernel_rfl) (by assumption) ?_
        try simp only [Act.put, List.setIfInBounds_toArray, List.set_cons_zero, List.set_cons_succ]
        first | (refine regW 3 (v := ?_) rfl (by rfl) (by kernel_rfl) (fun _ _ _ h => h) ?_ (by assumption) ?_; rotate_left; focus (intro w9 hSw; (try dsimp only at hSw); go_simp; (try with_reducible rfl); done)) | refine regU 3 rfl (by rfl) (by kernel_rfl) (fun _ _ _ h => h) (by assumption) ?_ | refine regN 3 rfl (by rfl) (by kernel_rfl) (by assumption) ?_
        try simp only [Act.put, List.setIfInBounds_toArray, List.set_cons_zero, List.set_cons_succ]
        first | (refine regW 4 (v := ?_) rfl (by rfl) (by kernel_rfl) (fun _ _ _ h => h) ?_ (by assumption) ?_; rotate_left; focus (intro w9 hSw; (try dsimp only at hSw); go_simp; (try with_reducible rfl); done)) | refine regU 4 rfl (by rfl) (by kernel_rfl) (fun _ _ _ h => h) (by assumption) ?_ | refine regN 4 rfl (by rfl) (by kernel_rfl) (by assumption) ?_
        try simp only [Act.put, List.setIfInBounds_toArray, List.set_cons_zero, List.set_cons_succ]
        first | (refine regW 5 (v := ?_) rfl (by rfl) (by kernel_rfl) (fun _ _ _ h => h) ?_ (by assumption) ?_; rotate_left; focus (intro w9 hSw; (try dsimp only at hSw); go_simp; (try with_reducible rfl); done)) | refine regU 5 rfl (by rfl) (by kernel_rfl) (fun _ _ _ h => h) (by assumption) ?_ | refine regN 5 rfl (by rfl) (by kernel_rfl) (by assumption) ?_
        try simp only [Act.put, List.setIfInBounds_toArray, List.set_cons_zero, List.set_cons_succ]
        first | (refine regW 6 (v := ?_) rfl (by rfl) (by kernel_rfl) (fun _ _ _ h => h) ?_ (by assumption) ?_; rotate_left; focus (intro w9 hSw; (try dsimp only at hSw); go_simp; (try with_reducible rfl); done)) | refine regU 6 rfl (by rfl) (by kernel_rfl) (fun _ _ _ h => h) (by assumption) ?_ | refine regN 6 rfl (by rfl) (by kernel_rfl) (by assumption) ?_
        try simp only [Act.put, List.setIfInBounds_toArray, List.set_cons_zero, List.set_cons_succ]
        refine regC 7 rfl (by kernel_rfl) (by rfl) (fun Kq hKq => ?_)
        go_simp
        (with_reducible refine (DS _).mono ?_)
        rintro e w25 ⟨rfl, hb⟩; replace hS := hS.step hb; clear hb
        try go_wp2_with fail
        refine hKq.out _ _ (⟨hS.cell 0 rfl 0, hS.cell 0 rfl 1, hS.cell 0 rfl 2, hS.cell 11 rfl 0, hS.cell 11 rfl 1, hS.cell 11 rfl 2, hS.cell 10 rfl 0, hS.cell 10 rfl 1, hS.cell 10 rfl 2⟩) (fun hHeld => ?_)
        clear hKq Kq
        (try simp only [Act.put, List.setIfInBounds_toArray, List.set_cons_zero, List.set_cons_succ])
        first | (refine regW 8 (v := ?_) rfl (by rfl) (by kernel_rfl) (fun _ _ _ h => h) ?_ (by assumption) ?_; rotate_left; focus (intro w9 hSw; (try dsimp only at hSw); go_simp; (try with_reducible rfl); done)) | refine regU 8 rfl (by rfl) (by kernel_rfl) (fun _ _ _ h => h) (by assumption) ?_ | refine regN 8 rfl (by rfl) (by kernel_rfl) (by assumption) ?_
        try simp only [Act.put, List.setIfInBounds_toArray, List.set_cons_zero, List.set_cons_succ]
        first | (refine regW 9 (v := ?_) rfl (by rfl) (by kernel_rfl) (fun _ _ _ h => h) ?_ (by assumption) ?_; rotate_left; focus (intro w9 hSw; (try dsimp only at hSw); go_simp; (try with_reducible rfl); done)) | refine regU 9 rfl (by rfl) (by kernel_rfl) (fun _ _ _ h => h) (by assumption) ?_ | refine regN 9 rfl (by rfl) (by kernel_rfl) (by assumption) ?_
        try simp only [Act.put, List.setIfInBounds_toArray, List.set_cons_zero, List.set_cons_succ]
        first | (refine regW 10 (v := ?_) rfl (by rfl) (by kernel_rfl) (fun _ _ _ h => h) ?_ (by assumption) ?_; rotate_left; focus (intro w9 hSw; (try dsimp only at hSw); go_simp; (try with_reducible rfl); done)) | refine regU 10 rfl (by rfl) (by kernel_rfl) (fun _ _ _ h => h) (by assumption) ?_ | refine regN 10 rfl (by rfl) (by kernel_rfl) (by assumption) ?_
        try simp only [Act.put, List.setIfInBounds_toArray, List.set_cons_zero, List.set_cons_succ]
        first | (refine regW 11 (v := ?_) rfl (by rfl) (by kernel_rfl) (fun _ _ _ h => h) ?_ (by assumption) ?_; rotate_left; focus (intro w9 hSw; (try dsimp only at hSw); go_simp; (try with_reducible rfl); done)) | refine regU 11 rfl (by rfl) (by kernel_rfl) (fun _ _ _ h => h) (by assumption) ?_ | refine regN 11 rfl (by rfl) (by kernel_rfl) (by assumption) ?_
        try simp only [Act.put, List.setIfInBounds_toArray, List.set_cons_zero, List.set_cons_succ]
        first | (refine regW 12 (v := ?_) rfl (by rfl) (by kernel_rfl) (fun _ _ _ h => h) ?_ (by assumption) ?_; rotate_left; focus (intro w9 hSw; (try dsimp only at hSw); go_simp; (try with_reducible rfl); done)) | refine regU 12 rfl (by rfl) (by kernel_rfl) (fun _ _ _ h => h) (by assumption) ?_ | refine regN 12 rfl (by rfl) (by kernel_rfl) (by assumption) ?_
        try simp only [Act.put, List.setIfInBounds_toArray, List.set_cons_zero, List.set_cons_succ]
        first | (refine regW 13 (v := ?_) rfl (by rfl) (by kernel_rfl) (fun _ _ _ h => h) ?_ (by assumption) ?_; rotate_left; focus (intro w9 hSw; (try dsimp only at hSw); go_simp; (try with_reducible rfl); done)) | refine regU 13 rfl (by rfl) (by kernel_rfl) (fun _ _ _ h => h) (by assumption) ?_ | refine regN 13 rfl (by rfl) (by kernel_rfl) (by assumption) ?_
        try simp only [Act.put, List.setIfInBounds_toArray, List.set_cons_zero, List.set_cons_succ]
        refine regC 14 rfl (by kernel_rfl) (by rfl) (fun Kq hKq => ?_)
        go_simp
        (with_reducible refine (CT _).mono ?_)
        rintro e w26 ⟨rfl, hb⟩; replace hS := hS.step hb; clear hb
        try go_wp2_with fail
        refine hKq.out _ _ (⟨hS.cell 0 rfl 0, hS.cell 0 rfl 1, hS.cell 0 rfl 2, hS.cell 11 rfl 0, hS.cell 11 rfl 1, hS.cell 11 rfl 2, hS.cell 10 rfl 0, hS.cell 10 rfl 1, hS.cell 10 rfl 2⟩) (fun hHeld => ?_)
        clear hKq Kq
        (try simp only [Act.put, List.setIfInBounds_toArray, List.set_cons_zero, List.set_cons_succ])
        first | (refine regW 15 (v := ?_) rfl (by rfl) (by kernel_rfl) (fun _ _ _ h => h) ?_ (by assumption) ?_; rotate_left; focus (intro w9 hSw; (try dsimp only at hSw); go_simp; (try with_reducible rfl); done)) | refine regU 15 rfl (by rfl) (by kernel_rfl) (fun _ _ _ h => h) (by assumption) ?_ | refine regN 15 rfl (by rfl) (by kernel_rfl) (by assumption) ?_
        try simp only [Act.put, List.setIfInBounds_toArray, List.set_cons_zero, List.set_cons_succ]
        first | (refine regW 16 (v := ?_) rfl (by rfl) (by kernel_rfl) (fun _ _ _ h => h) ?_ (by assumption) ?_; rotate_left; focus (intro w9 hSw; (try dsimp only at hSw); go_simp; (try with_reducible rfl); done)) | refine regU 16 rfl (by rfl) (by kernel_rfl) (fun _ _ _ h => h) (by assumption) ?_ | refine regN 16 rfl (by rfl) (by kernel_rfl) (by assumption) ?_
        try simp only [Act.put, List.setIfInBounds_toArray, List.set_cons_zero, List.set_cons_succ]
        refine wpAnyH_done (by kernel_rfl) ?_ _
        clear hHeld
        have x_b3 := hS.cell 11 rfl
        have x_b4 := hS.cell 10 rfl
        have x_b6 := hS.cell 9 rfl
        have x_b8 := hS.cell 8 rfl
        have x_b10 := hS.cell 7 rfl
        have x_b12 := hS.cell 6 rfl
        have x_b14 := hS.cell 5 rfl
        have x_b16 := hS.cell 4 rfl
        have x_b18 := hS.cell 3 rfl
        have x_b20 := hS.cell 2 rfl
        have x_b22 := hS.cell 1 rfl
        have x_b24 := hS.cell 0 rfl
        go_wp2_with fail
        refine (DL _).mono ?_
        rintro e w27 ⟨rfl, hb⟩
        try clear x_b3
        try clear x_b4
        try clear x_b6
        try clear x_b8
        try clear x_b10
        try clear x_b12
        try clear x_b14
        try clear x_b16
        try clear x_b18
        try clear x_b20
        try clear x_b22
        try clear x_b24
        replace hS := hS.step hb
        clear hb
        have x_b3 := hS.cell 11 rfl
        have x_b4 := hS.cell 10 rfl
        have x_b6 := hS.cell 9 rfl
        have x_b8 := hS.cell 8 rfl
        have x_b10 := hS.cell 7 rfl
        have x_b12 := hS.cell 6 rfl
        have x_b14 := hS.cell 5 rfl
        have x_b16 := hS.cell 4 rfl
        have x_b18 := hS.cell 3 rfl
        have x_b20 := hS.cell 2 rfl
        have x_b22 := hS.cell 1 rfl
        have x_b24 := hS.cell 0 rfl
        try clear x_b3
        try clear x_b4
        try clear x_b6
        try clear x_b8
        try clear x_b10
        try clear x_b12
        try clear x_b14
        try clear x_b16
        try clear x_b18
        try clear x_b20
        try clear x_b22
        try clear x_b24
        try clear x_b28
        replace hS := hS.made (.cells #[.int .i64 L.k, .int .i64 L.n, .string L.s] 25 (0, 0))
        have x_b3 := hS.cell 12 rfl
        have x_b4 := hS.cell 11 rfl
        have x_b6 := hS.cell 10 rfl
        have x_b8 := hS.cell 9 rfl
        have x_b10 := hS.cell 8 rfl
        have x_b12 := hS.cell 7 rfl
        have x_b14 := hS.cell 6 rfl
        have x_b16 := hS.cell 5 rfl
        have x_b18 := hS.cell 4 rfl
        have x_b20 := hS.cell 3 rfl
        have x_b22 := hS.cell 2 rfl
        have x_b24 := hS.cell 1 rfl
        have x_b28 := hS.cell 0 rfl
        go_wp2
        go_ret
        exact ⟨ret_bool (by first | rfl | (simp only [decide_eq_true_eq]; rw [IntWalk.i64_in (by omega) (by omega), IntWalk.i64_in (by omega) (by omega)]; omega) | simp_all), hS.bel⟩
    · skip
      have tn : t ≠ 0 := by have h9 : lessT ⟨1, an, az⟩ ⟨bk, bn, bz⟩ = t := Ht; rw [← h9]; simp [lessT, k2]
      have hL : L = V.zero := by have h9 : lessV ⟨1, an, az⟩ ⟨bk, bn, bz⟩ = L := HL; rw [← h9]; simp [lessV, k2]
      have hG : G = V.zero := by have h9 : lessV ⟨bk, bn, bz⟩ ⟨1, an, az⟩ = G := HG; rw [← h9]; simp [lessV, k2]
      subst hL hG
      dsimp only [V.zero] at *
      go_wp2_with fail
      refine (CL _).mono ?_
      rintro e w19 ⟨rfl, hb⟩
      try clear x_b3
      try clear x_b4
      try clear x_b6
      try clear x_b8
      try clear x_b10
      try clear x_b12
      try clear x_b14
      try clear x_b16
      try clear x_b18
      replace hS := hS.step hb
      clear hb
      have x_b3 := hS.cell 8 rfl
      have x_b4 := hS.cell 7 rfl
      have x_b6 := hS.cell 6 rfl
      have x_b8 := hS.cell 5 rfl
      have x_b10 := hS.cell 4 rfl
      have x_b12 := hS.cell 3 rfl
      have x_b14 := hS.cell 2 rfl
      have x_b16 := hS.cell 1 rfl
      have x_b18 := hS.cell 0 rfl
      try clear x_b3
      try clear x_b4
      try clear x_b6
      try clear x_b8
      try clear x_b10
      try clear x_b12
      try clear x_b14
      try clear x_b16
      try clear x_b18
      try clear x_b20
      replace hS := hS.made (.cells #[.int .i64 0, .int .i64 0, .string (⟨#[]⟩ : ByteArray)] 25 (0, 0))
      have x_b3 := hS.cell 9 rfl
      have x_b4 := hS.cell 8 rfl
      have x_b6 := hS.cell 7 rfl
      have x_b8 := hS.cell 6 rfl
      have x_b10 := hS.cell 5 rfl
      have x_b12 := hS.cell 4 rfl
      have x_b14 := hS.cell 3 rfl
      have x_b16 := hS.cell 2 rfl
      have x_b18 := hS.cell 1 rfl
      have x_b20 := hS.cell 0 rfl
      go_wp2_with fail
      refine (CG _).mono ?_
      rintro e w21 ⟨rfl, hb⟩
      try clear x_b3
      try clear x_b4
      try clear x_b6
      try clear x_b8
      try clear x_b10
      try clear x_b12
      try clear x_b14
      try clear x_b16
      try clear x_b18
      try clear x_b20
      replace hS := hS.step hb
      clear hb
      have x_b3 := hS.cell 9 rfl
      have x_b4 := hS.cell 8 rfl
      have x_b6 := hS.cell 7 rfl
      have x_b8 := hS.cell 6 rfl
      have x_b10 := hS.cell 5 rfl
      have x_b12 := hS.cell 4 rfl
      have x_b14 := hS.cell 3 rfl
      have x_b16 := hS.cell 2 rfl
      have x_b18 := hS.cell 1 rfl
      have x_b20 := hS.cell 0 rfl
      try clear x_b3
      try clear x_b4
      try clear x_b6
      try clear x_b8
      try clear x_b10
      try clear x_b12
      try clear x_b14
      try clear x_b16
      try clear x_b18
      try clear x_b20
      try clear x_b22
      replace hS := hS.made (.cells #[.int .i64 0, .int .i64 0, .string (⟨#[]⟩ : ByteArray)] 25 (0, 0))
      have x_b3 := hS.cell 10 rfl
      have x_b4 := hS.cell 9 rfl
      have x_b6 := hS.cell 8 rfl
      have x_b8 := hS.cell 7 rfl
      have x_b10 := hS.cell 6 rfl
      have x_b12 := hS.cell 5 rfl
      have x_b14 := hS.cell 4 rfl
      have x_b16 := hS.cell 3 rfl
      have x_b18 := hS.cell 2 rfl
      have x_b20 := hS.cell 1 rfl
      have x_b22 := hS.cell 0 rfl
      go_wp2_with fail
      refine (CS _).mono ?_
      rintro e w23 ⟨rfl, hb⟩
      try clear x_b3
      try clear x_b4
      try clear x_b6
      try clear x_b8
      try clear x_b10
      try clear x_b12
      try clear x_b14
      try clear x_b16
      try clear x_b18
      try clear x_b20
      try clear x_b22
      replace hS := hS.step hb
      clear hb
      have x_b3 := hS.cell 10 rfl
      have x_b4 := hS.cell 9 rfl
      have x_b6 := hS.cell 8 rfl
      have x_b8 := hS.cell 7 rfl
      have x_b10 := hS.cell 6 rfl
      have x_b12 := hS.cell 5 rfl
      have x_b14 := hS.cell 4 rfl
      have x_b16 := hS.cell 3 rfl
      have x_b18 := hS.cell 2 rfl
      have x_b20 := hS.cell 1 rfl
      have x_b22 := hS.cell 0 rfl
      try clear x_b3
      try clear x_b4
      try clear x_b6
      try clear x_b8
      try clear x_b10
      try clear x_b12
      try clear x_b14
      try clear x_b16
      try clear x_b18
      try clear x_b20
      try clear x_b22
      try clear x_b24
      replace hS := hS.made (.cells #[.int .i64 M.k, .int .i64 M.n, .string M.s] 25 (0, 0))
      have x_b3 := hS.cell 11 rfl
      have x_b4 := hS.cell 10 rfl
      have x_b6 := hS.cell 9 rfl
      have x_b8 := hS.cell 8 rfl
      have x_b10 := hS.cell 7 rfl
      have x_b12 := hS.cell 6 rfl
      have x_b14 := hS.cell 5 rfl
      have x_b16 := hS.cell 4 rfl
      have x_b18 := hS.cell 3 rfl
      have x_b20 := hS.cell 2 rfl
      have x_b22 := hS.cell 1 rfl
      have x_b24 := hS.cell 0 rfl
      go_wp2
      try clear x_b3
      try clear x_b4
      try clear x_b6
      try clear x_b8
      try clear x_b10
      try clear x_b12
      try clear x_b14
      try clear x_b16
      try clear x_b18
      try clear x_b20
      try clear x_b22
      try clear x_b24
      replace hS := hS.drew
      refine wp_region_held_drew (S := (fun w' => w'.cell? ⟨w23.heap.size, 0, none⟩ = some (.int .i64 M.k) ∧ w'.cell? ⟨w23.heap.size, 1, none⟩ = some (.int .i64 M.n) ∧ w'.cell? ⟨w23.heap.size, 2, none⟩ = some (.string M.s) ∧ w'.cell? ⟨w2.heap.size, 0, none⟩ = some (.int .i64 1) ∧ w'.cell? ⟨w2.heap.size, 1, none⟩ = some (.int .i64 an) ∧ w'.cell? ⟨w2.heap.size, 2, none⟩ = some (.string az) ∧ w'.cell? ⟨w2.heap.size + 1, 0, none⟩ = some (.int .i64 bk) ∧ w'.cell? ⟨w2.heap.size + 1, 1, none⟩ = some (.int .i64 bn) ∧ w'.cell? ⟨w2.heap.size + 1, 2, none⟩ = some (.string bz))) (by kernel_rfl) (⟨hS.cell 0 rfl 0, hS.cell 0 rfl 1, hS.cell 0 rfl 2, hS.cell 11 rfl 0, hS.cell 11 rfl 1, hS.cell 11 rfl 2, hS.cell 10 rfl 0, hS.cell 10 rfl 1, hS.cell 10 rfl 2⟩) (fun hHeld => ?_)
      first | (refine regW 0 (v := ?_) rfl (by rfl) (by kernel_rfl) (fun _ _ _ h => h) ?_ (by assumption) ?_; rotate_left; focus (intro w9 hSw; (try dsimp only at hSw); go_simp; (try with_reducible rfl); done)) | refine regU 0 rfl (by rfl) (by kernel_rfl) (fun _ _ _ h => h) (by assumption) ?_ | refine regN 0 rfl (by rfl) (by kernel_rfl) (by assumption) ?_
      try simp only [Act.put, List.setIfInBounds_toArray, List.set_cons_zero, List.set_cons_succ]
      first | (refine regW 1 (v := ?_) rfl (by rfl) (by kernel_rfl) (fun _ _ _ h => h) ?_ (by assumption) ?_; rotate_left; focus (intro w9 hSw; (try dsimp only at hSw); go_simp; (try with_reducible rfl); done)) | refine regU 1 rfl (by rfl) (by kernel_rfl) (fun _ _ _ h => h) (by assumption) ?_ | refine regN 1 rfl (by rfl) (by kernel_rfl) (by assumption) ?_
      try simp only [Act.put, List.setIfInBounds_toArray, List.set_cons_zero, List.set_cons_succ]
      first | (refine regW 2 (v := ?_) rfl (by rfl) (by kernel_rfl) (fun _ _ _ h => h) ?_ (by assumption) ?_; rotate_left; focus (intro w9 hSw; (try dsimp only at hSw); go_simp; (try with_reducible rfl); done)) | refine regU 2 rfl (by rfl) (by kernel_rfl) (fun _ _ _ h => h) (by assumption) ?_ | refine regN 2 rfl (by rfl) (by kernel_rfl) (by assumption) ?_
      try simp only [Act.put, List.setIfInBounds_toArray, List.set_cons_zero, List.set_cons_succ]
      first | (refine regW 3 (v := ?_) rfl (by rfl) (by kernel_rfl) (fun _ _ _ h => h) ?_ (by assumption) ?_; rotate_left; focus (intro w9 hSw; (try dsimp only at hSw); go_simp; (try with_reducible rfl); done)) | refine regU 3 rfl (by rfl) (by kernel_rfl) (fun _ _ _ h => h) (by assumption) ?_ | refine regN 3 rfl (by rfl) (by kernel_rfl) (by assumption) ?_
      try simp only [Act.put, List.setIfInBounds_toArray, List.set_cons_zero, List.set_cons_succ]
      first | (refine regW 4 (v := ?_) rfl (by rfl) (by kernel_rfl) (fun _ _ _ h => h) ?_ (by assumption) ?_; rotate_left; focus (intro w9 hSw; (try dsimp only at hSw); go_simp; (try with_reducible rfl); done)) | refine regU 4 rfl (by rfl) (by kernel_rfl) (fun _ _ _ h => h) (by assumption) ?_ | refine regN 4 rfl (by rfl) (by kernel_rfl) (by assumption) ?_
      try simp only [Act.put, List.setIfInBounds_toArray, List.set_cons_zero, List.set_cons_succ]
      first | (refine regW 5 (v := ?_) rfl (by rfl) (by kernel_rfl) (fun _ _ _ h => h) ?_ (by assumption) ?_; rotate_left; focus (intro w9 hSw; (try dsimp only at hSw); go_simp; (try with_reducible rfl); done)) | refine regU 5 rfl (by rfl) (by kernel_rfl) (fun _ _ _ h => h) (by assumption) ?_ | refine regN 5 rfl (by rfl) (by kernel_rfl) (by assumption) ?_
      try simp only [Act.put, List.setIfInBounds_toArray, List.set_cons_zero, List.set_cons_succ]
      first | (refine regW 6 (v := ?_) rfl (by rfl) (by kernel_rfl) (fun _ _ _ h => h) ?_ (by assumption) ?_; rotate_left; focus (intro w9 hSw; (try dsimp only at hSw); go_simp; (try with_reducible rfl); done)) | refine regU 6 rfl (by rfl) (by kernel_rfl) (fun _ _ _ h => h) (by assumption) ?_ | refine regN 6 rfl (by rfl) (by kernel_rfl) (by assumption) ?_
      try simp only [Act.put, List.setIfInBounds_toArray, List.set_cons_zero, List.set_cons_succ]
      refine regC 7 rfl (by kernel_rfl) (by rfl) (fun Kq hKq => ?_)
      go_simp
      (with_reducible refine (DS _).mono ?_)
      rintro e w25 ⟨rfl, hb⟩; replace hS := hS.step hb; clear hb
      try go_wp2_with fail
      refine hKq.out _ _ (⟨hS.cell 0 rfl 0, hS.cell 0 rfl 1, hS.cell 0 rfl 2, hS.cell 11 rfl 0, hS.cell 11 rfl 1, hS.cell 11 rfl 2, hS.cell 10 rfl 0, hS.cell 10 rfl 1, hS.cell 10 rfl 2⟩) (fun hHeld => ?_)
      clear hKq Kq
      (try simp only [Act.put, List.setIfInBounds_toArray, List.set_cons_zero, List.set_cons_succ])
      first | (refine regW 8 (v := ?_) rfl (by rfl) (by kernel_rfl) (fun _ _ _ h => h) ?_ (by assumption) ?_; rotate_left; focus (intro w9 hSw; (try dsimp only at hSw); go_simp; (try with_reducible rfl); done)) | refine regU 8 rfl (by rfl) (by kernel_rfl) (fun _ _ _ h => h) (by assumption) ?_ | refine regN 8 rfl (by rfl) (by kernel_rfl) (by assumption) ?_
      try simp only [Act.put, List.setIfInBounds_toArray, List.set_cons_zero, List.set_cons_succ]
      first | (refine regW 9 (v := ?_) rfl (by rfl) (by kernel_rfl) (fun _ _ _ h => h) ?_ (by assumption) ?_; rotate_left; focus (intro w9 hSw; (try dsimp only at hSw); go_simp; (try with_reducible rfl); done)) | refine regU 9 rfl (by rfl) (by kernel_rfl) (fun _ _ _ h => h) (by assumption) ?_ | refine regN 9 rfl (by rfl) (by kernel_rfl) (by assumption) ?_
      try simp only [Act.put, List.setIfInBounds_toArray, List.set_cons_zero, List.set_cons_succ]
      first | (refine regW 10 (v := ?_) rfl (by rfl) (by kernel_rfl) (fun _ _ _ h => h) ?_ (by assumption) ?_; rotate_left; focus (intro w9 hSw; (try dsimp only at hSw); go_simp; (try with_reducible rfl); done)) | refine regU 10 rfl (by rfl) (by kernel_rfl) (fun _ _ _ h => h) (by assumption) ?_ | refine regN 10 rfl (by rfl) (by kernel_rfl) (by assumption) ?_
      try simp only [Act.put, List.setIfInBounds_toArray, List.set_cons_zero, List.set_cons_succ]
      first | (refine regW 11 (v := ?_) rfl (by rfl) (by kernel_rfl) (fun _ _ _ h => h) ?_ (by assumption) ?_; rotate_left; focus (intro w9 hSw; (try dsimp only at hSw); go_simp; (try with_reducible rfl); done)) | refine regU 11 rfl (by rfl) (by kernel_rfl) (fun _ _ _ h => h) (by assumption) ?_ | refine regN 11 rfl (by rfl) (by kernel_rfl) (by assumption) ?_
      try simp only [Act.put, List.setIfInBounds_toArray, List.set_cons_zero, List.set_cons_succ]
      first | (refine regW 12 (v := ?_) rfl (by rfl) (by kernel_rfl) (fun _ _ _ h => h) ?_ (by assumption) ?_; rotate_left; focus (intro w9 hSw; (try dsimp only at hSw); go_simp; (try with_reducible rfl); done)) | refine regU 12 rfl (by rfl) (by kernel_rfl) (fun _ _ _ h => h) (by assumption) ?_ | refine regN 12 rfl (by rfl) (by kernel_rfl) (by assumption) ?_
      try simp only [Act.put, List.setIfInBounds_toArray, List.set_cons_zero, List.set_cons_succ]
      first | (refine regW 13 (v := ?_) rfl (by rfl) (by kernel_rfl) (fun _ _ _ h => h) ?_ (by assumption) ?_; rotate_left; focus (intro w9 hSw; (try dsimp only at hSw); go_simp; (try with_reducible rfl); done)) | refine regU 13 rfl (by rfl) (by kernel_rfl) (fun _ _ _ h => h) (by assumption) ?_ | refine regN 13 rfl (by rfl) (by kernel_rfl) (by assumption) ?_
      try simp only [Act.put, List.setIfInBounds_toArray, List.set_cons_zero, List.set_cons_succ]
      refine regC 14 rfl (by kernel_rfl) (by rfl) (fun Kq hKq => ?_)
      go_simp
      (with_reducible refine (CT _).mono ?_)
      rintro e w26 ⟨rfl, hb⟩; replace hS := hS.step hb; clear hb
      try go_wp2_with fail
      refine hKq.out _ _ (⟨hS.cell 0 rfl 0, hS.cell 0 rfl 1, hS.cell 0 rfl 2, hS.cell 11 rfl 0, hS.cell 11 rfl 1, hS.cell 11 rfl 2, hS.cell 10 rfl 0, hS.cell 10 rfl 1, hS.cell 10 rfl 2⟩) (fun hHeld => ?_)
      clear hKq Kq
      (try simp only [Act.put, List.setIfInBounds_toArray, List.set_cons_zero, List.set_cons_succ])
      first | (refine regW 15 (v := ?_) rfl (by rfl) (by kernel_rfl) (fun _ _ _ h => h) ?_ (by assumption) ?_; rotate_left; focus (intro w9 hSw; (try dsimp only at hSw); go_simp; (try with_reducible rfl); done)) | refine regU 15 rfl (by rfl) (by kernel_rfl) (fun _ _ _ h => h) (by assumption) ?_ | refine regN 15 rfl (by rfl) (by kernel_rfl) (by assumption) ?_
      try simp only [Act.put, List.setIfInBounds_toArray, List.set_cons_zero, List.set_cons_succ]
      first | (refine regW 16 (v := ?_) rfl (by rfl) (by kernel_rfl) (fun _ _ _ h => h) ?_ (by assumption) ?_; rotate_left; focus (intro w9 hSw; (try dsimp only at hSw); go_simp; (try with_reducible rfl); done)) | refine regU 16 rfl (by rfl) (by kernel_rfl) (fun _ _ _ h => h) (by assumption) ?_ | refine regN 16 rfl (by rfl) (by kernel_rfl) (by assumption) ?_
      try simp only [Act.put, List.setIfInBounds_toArray, List.set_cons_zero, List.set_cons_succ]
      refine wpAnyH_done (by kernel_rfl) ?_ _
      clear hHeld
      have x_b3 := hS.cell 11 rfl
      have x_b4 := hS.cell 10 rfl
      have x_b6 := hS.cell 9 rfl
      have x_b8 := hS.cell 8 rfl
      have x_b10 := hS.cell 7 rfl
      have x_b12 := hS.cell 6 rfl
      have x_b14 := hS.cell 5 rfl
      have x_b16 := hS.cell 4 rfl
      have x_b18 := hS.cell 3 rfl
      have x_b20 := hS.cell 2 rfl
      have x_b22 := hS.cell 1 rfl
      have x_b24 := hS.cell 0 rfl
      go_wp2_with fail
      refine (DL _).mono ?_
      rintro e w27 ⟨rfl, hb⟩
      try clear x_b3
      try clear x_b4
      try clear x_b6
      try clear x_b8
      try clear x_b10
      try clear x_b12
      try clear x_b14
      try clear x_b16
      try clear x_b18
      try clear x_b20
      try clear x_b22
      try clear x_b24
      replace hS := hS.step hb
      clear hb
      have x_b3 := hS.cell 11 rfl
      have x_b4 := hS.cell 10 rfl
      have x_b6 := hS.cell 9 rfl
      have x_b8 := hS.cell 8 rfl
      have x_b10 := hS.cell 7 rfl
      have x_b12 := hS.cell 6 rfl
      have x_b14 := hS.cell 5 rfl
      have x_b16 := hS.cell 4 rfl
      have x_b18 := hS.cell 3 rfl
      have x_b20 := hS.cell 2 rfl
      have x_b22 := hS.cell 1 rfl
      have x_b24 := hS.cell 0 rfl
      try clear x_b3
      try clear x_b4
      try clear x_b6
      try clear x_b8
      try clear x_b10
      try clear x_b12
      try clear x_b14
      try clear x_b16
      try clear x_b18
      try clear x_b20
      try clear x_b22
      try clear x_b24
      try clear x_b28
      replace hS := hS.made (.cells #[.int .i64 0, .int .i64 0, .string (⟨#[]⟩ : ByteArray)] 25 (0, 0))
      have x_b3 := hS.cell 12 rfl
      have x_b4 := hS.cell 11 rfl
      have x_b6 := hS.cell 10 rfl
      have x_b8 := hS.cell 9 rfl
      have x_b10 := hS.cell 8 rfl
      have x_b12 := hS.cell 7 rfl
      have x_b14 := hS.cell 6 rfl
      have x_b16 := hS.cell 5 rfl
      have x_b18 := hS.cell 4 rfl
      have x_b20 := hS.cell 3 rfl
      have x_b22 := hS.cell 2 rfl
      have x_b24 := hS.cell 1 rfl
      have x_b28 := hS.cell 0 rfl
      go_wp2
      go_ret
      exact ⟨ret_bool (by first | rfl | (simp only [decide_eq_true_eq]; rw [IntWalk.i64_in (by omega) (by omega), IntWalk.i64_in (by omega) (by omega)]; omega) | simp_all), hS.bel⟩
  · by_cases k33 : ak = 3 ∧ bk = 3
    · obtain ⟨k31, k32⟩ := k33
      subst k31 k32
      have t0 : t = 0 := by have h9 : lessT ⟨3, an, az⟩ ⟨3, bn, bz⟩ = t := Ht; rw [← h9]; simp [lessT]
      subst t0
      by_cases n1 : an = 0
      · subst n1
        by_cases n2 : bn = 0
        · subst n2
          have hLn : L.n = 0 ∨ L.n = 1 := by have h9 : lessV ⟨3, 0, az⟩ ⟨3, 0, bz⟩ = L := HL; rw [← h9]; exact lessV_n _ _
          have hGn : G.n = 0 ∨ G.n = 1 := by have h9 : lessV ⟨3, 0, bz⟩ ⟨3, 0, az⟩ = G := HG; rw [← h9]; exact lessV_n _ _
          have hMn : M.n = 0 ∨ M.n = 1 := by have h9 : sameV ⟨3, 0, az⟩ ⟨3, 0, bz⟩ = M := HM; rw [← h9]; exact sameV_n _ _
          have hsum : L.n + G.n + M.n = 1 := by have h7 : lessV ⟨3, 0, az⟩ ⟨3, 0, bz⟩ = L := HL; have h8 : lessV ⟨3, 0, bz⟩ ⟨3, 0, az⟩ = G := HG; have h9 : sameV ⟨3, 0, az⟩ ⟨3, 0, bz⟩ = M := HM; rw [← h7, ← h8, ← h9]; exact one_text rfl rfl rfl rfl
          go_wp2_with fail
          refine (CL _).mono ?_
          rintro e w19 ⟨rfl, hb⟩
          try clear x_b3
          try clear x_b4
          try clear x_b6
          try clear x_b8
          try clear x_b10
          try clear x_b12
          try clear x_b14
          try clear x_b16
          try clear x_b18
          replace hS := hS.step hb
          clear hb
          have x_b3 := hS.cell 8 rfl
          have x_b4 := hS.cell 7 rfl
          have x_b6 := hS.cell 6 rfl
          have x_b8 := hS.cell 5 rfl
          have x_b10 := hS.cell 4 rfl
          have x_b12 := hS.cell 3 rfl
          have x_b14 := hS.cell 2 rfl
          have x_b16 := hS.cell 1 rfl
          have x_b18 := hS.cell 0 rfl
          try clear x_b3
          try clear x_b4
          try clear x_b6
          try clear x_b8
          try clear x_b10
          try clear x_b12
          try clear x_b14
          try clear x_b16
          try clear x_b18
          try clear x_b20
          replace hS := hS.made (.cells #[.int .i64 L.k, .int .i64 L.n, .string L.s] 25 (0, 0))
          have x_b3 := hS.cell 9 rfl
          have x_b4 := hS.cell 8 rfl
          have x_b6 := hS.cell 7 rfl
          have x_b8 := hS.cell 6 rfl
          have x_b10 := hS.cell 5 rfl
          have x_b12 := hS.cell 4 rfl
          have x_b14 := hS.cell 3 rfl
          have x_b16 := hS.cell 2 rfl
          have x_b18 := hS.cell 1 rfl
          have x_b20 := hS.cell 0 rfl
          go_wp2_with fail
          refine (CG _).mono ?_
          rintro e w21 ⟨rfl, hb⟩
          try clear x_b3
          try clear x_b4
          try clear x_b6
          try clear x_b8
          try clear x_b10
          try clear x_b12
          try clear x_b14
          try clear x_b16
          try clear x_b18
          try clear x_b20
          replace hS := hS.step hb
          clear hb
          have x_b3 := hS.cell 9 rfl
          have x_b4 := hS.cell 8 rfl
          have x_b6 := hS.cell 7 rfl
          have x_b8 := hS.cell 6 rfl
          have x_b10 := hS.cell 5 rfl
          have x_b12 := hS.cell 4 rfl
          have x_b14 := hS.cell 3 rfl
          have x_b16 := hS.cell 2 rfl
          have x_b18 := hS.cell 1 rfl
          have x_b20 := hS.cell 0 rfl
          try clear x_b3
          try clear x_b4
          try clear x_b6
          try clear x_b8
          try clear x_b10
          try clear x_b12
          try clear x_b14
          try clear x_b16
          try clear x_b18
          try clear x_b20
          try clear x_b22
          replace hS := hS.made (.cells #[.int .i64 G.k, .int .i64 G.n, .string G.s] 25 (0, 0))
          have x_b3 := hS.cell 10 rfl
          have x_b4 := hS.cell 9 rfl
          have x_b6 := hS.cell 8 rfl
          have x_b8 := hS.cell 7 rfl
          have x_b10 := hS.cell 6 rfl
          have x_b12 := hS.cell 5 rfl
          have x_b14 := hS.cell 4 rfl
          have x_b16 := hS.cell 3 rfl
          have x_b18 := hS.cell 2 rfl
          have x_b20 := hS.cell 1 rfl
          have x_b22 := hS.cell 0 rfl
          go_wp2_with fail
          refine (CS _).mono ?_
          rintro e w23 ⟨rfl, hb⟩
          try clear x_b3
          try clear x_b4
          try clear x_b6
          try clear x_b8
          try clear x_b10
          try clear x_b12
          try clear x_b14
          try clear x_b16
          try clear x_b18
          try clear x_b20
          try clear x_b22
          replace hS := hS.step hb
          clear hb
          have x_b3 := hS.cell 10 rfl
          have x_b4 := hS.cell 9 rfl
          have x_b6 := hS.cell 8 rfl
          have x_b8 := hS.cell 7 rfl
          have x_b10 := hS.cell 6 rfl
          have x_b12 := hS.cell 5 rfl
          have x_b14 := hS.cell 4 rfl
          have x_b16 := hS.cell 3 rfl
          have x_b18 := hS.cell 2 rfl
          have x_b20 := hS.cell 1 rfl
          have x_b22 := hS.cell 0 rfl
          try clear x_b3
          try clear x_b4
          try clear x_b6
          try clear x_b8
          try clear x_b10
          try clear x_b12
          try clear x_b14
          try clear x_b16
          try clear x_b18
          try clear x_b20
          try clear x_b22
          try clear x_b24
          replace hS := hS.made (.cells #[.int .i64 M.k, .int .i64 M.n, .string M.s] 25 (0, 0))
          have x_b3 := hS.cell 11 rfl
          have x_b4 := hS.cell 10 rfl
          have x_b6 := hS.cell 9 rfl
          have x_b8 := hS.cell 8 rfl
          have x_b10 := hS.cell 7 rfl
          have x_b12 := hS.cell 6 rfl
          have x_b14 := hS.cell 5 rfl
          have x_b16 := hS.cell 4 rfl
          have x_b18 := hS.cell 3 rfl
          have x_b20 := hS.cell 2 rfl
          have x_b22 := hS.cell 1 rfl
          have x_b24 := hS.cell 0 rfl
          go_wp2
          try clear x_b3
          try clear x_b4
          try clear x_b6
          try clear x_b8
          try clear x_b10
          try clear x_b12
          try clear x_b14
          try clear x_b16
          try clear x_b18
          try clear x_b20
          try clear x_b22
          try clear x_b24
          replace hS := hS.drew
          refine wp_region_held_drew (S := (fun w' => w'.cell? ⟨w23.heap.size, 0, none⟩ = some (.int .i64 M.k) ∧ w'.cell? ⟨w23.heap.size, 1, none⟩ = some (.int .i64 M.n) ∧ w'.cell? ⟨w23.heap.size, 2, none⟩ = some (.string M.s) ∧ w'.cell? ⟨w2.heap.size, 0, none⟩ = some (.int .i64 3) ∧ w'.cell? ⟨w2.heap.size, 1, none⟩ = some (.int .i64 0) ∧ w'.cell? ⟨w2.heap.size, 2, none⟩ = some (.string az) ∧ w'.cell? ⟨w2.heap.size + 1, 0, none⟩ = some (.int .i64 3) ∧ w'.cell? ⟨w2.heap.size + 1, 1, none⟩ = some (.int .i64 0) ∧ w'.cell? ⟨w2.heap.size + 1, 2, none⟩ = some (.string bz))) (by kernel_rfl) (⟨hS.cell 0 rfl 0, hS.cell 0 rfl 1, hS.cell 0 rfl 2, hS.cell 11 rfl 0, hS.cell 11 rfl 1, hS.cell 11 rfl 2, hS.cell 10 rfl 0, hS.cell 10 rfl 1, hS.cell 10 rfl 2⟩) (fun hHeld => ?_)
          first | (refine regW 0 (v := ?_) rfl (by rfl) (by kernel_rfl) (fun _ _ _ h => h) ?_ (by assumption) ?_; rotate_left; focus (intro w9 hSw; (try dsimp only at hSw); go_simp; (try with_reducible rfl); done)) | refine regU 0 rfl (by rfl) (by kernel_rfl) (fun _ _ _ h => h) (by assumption) ?_ | refine regN 0 rfl (by rfl) (by kernel_rfl) (by assumption) ?_
          try simp only [Act.put, List.setIfInBounds_toArray, List.set_cons_zero, List.set_cons_succ]
          first | (refine regW 1 (v := ?_) rfl (by rfl) (by kernel_rfl) (fun _ _ _ h => h) ?_ (by assumption) ?_; rotate_left; focus (intro w9 hSw; (try dsimp only at hSw); go_simp; (try with_reducible rfl); done)) | refine regU 1 rfl (by rfl) (by kernel_rfl) (fun _ _ _ h => h) (by assumption) ?_ | refine regN 1 rfl (by rfl) (by kernel_rfl) (by assumption) ?_
          try simp only [Act.put, List.setIfInBounds_toArray, List.set_cons_zero, List.set_cons_succ]
          first | (refine regW 2 (v := ?_) rfl (by rfl) (by kernel_rfl) (fun _ _ _ h => h) ?_ (by assumption) ?_; rotate_left; focus (intro w9 hSw; (try dsimp only at hSw); go_simp; (try with_reducible rfl); done)) | refine regU 2 rfl (by rfl) (by kernel_rfl) (fun _ _ _ h => h) (by assumption) ?_ | refine regN 2 rfl (by rfl) (by kernel_rfl) (by assumption) ?_
          try simp only [Act.put, List.setIfInBounds_toArray, List.set_cons_zero, List.set_cons_succ]
          first | (refine regW 3 (v := ?_) rfl (by rfl) (by kernel_rfl) (fun _ _ _ h => h) ?_ (by assumption) ?_; rotate_left; focus (intro w9 hSw; (try dsimp only at hSw); go_simp; (try with_reducible rfl); done)) | refine regU 3 rfl (by rfl) (by kernel_rfl) (fun _ _ _ h => h) (by assumption) ?_ | refine regN 3 rfl (by rfl) (by kernel_rfl) (by assumption) ?_
          try simp only [Act.put, List.setIfInBounds_toArray, List.set_cons_zero, List.set_cons_succ]
          first | (refine regW 4 (v := ?_) rfl (by rfl) (by kernel_rfl) (fun _ _ _ h => h) ?_ (by assumption) ?_; rotate_left; focus (intro w9 hSw; (try dsimp only at hSw); go_simp; (try with_reducible rfl); done)) | refine regU 4 rfl (by rfl) (by kernel_rfl) (fun _ _ _ h => h) (by assumption) ?_ | refine regN 4 rfl (by rfl) (by kernel_rfl) (by assumption) ?_
          try simp only [Act.put, List.setIfInBounds_toArray, List.set_cons_zero, List.set_cons_succ]
          first | (refine regW 5 (v := ?_) rfl (by rfl) (by kernel_rfl) (fun _ _ _ h => h) ?_ (by assumption) ?_; rotate_left; focus (intro w9 hSw; (try dsimp only at hSw); go_simp; (try with_reducible rfl); done)) | refine regU 5 rfl (by rfl) (by kernel_rfl) (fun _ _ _ h => h) (by assumption) ?_ | refine regN 5 rfl (by rfl) (by kernel_rfl) (by assumption) ?_
          try simp only [Act.put, List.setIfInBounds_toArray, List.set_cons_zero, List.set_cons_succ]
          first | (refine regW 6 (v := ?_) rfl (by rfl) (by kernel_rfl) (fun _ _ _ h => h) ?_ (by assumption) ?_; rotate_left; focus (intro w9 hSw; (try dsimp only at hSw); go_simp; (try with_reducible rfl); done)) | refine regU 6 rfl (by rfl) (by kernel_rfl) (fun _ _ _ h => h) (by assumption) ?_ | refine regN 6 rfl (by rfl) (by kernel_rfl) (by assumption) ?_
          try simp only [Act.put, List.setIfInBounds_toArray, List.set_cons_zero, List.set_cons_succ]
          refine regC 7 rfl (by kernel_rfl) (by rfl) (fun Kq hKq => ?_)
          go_simp
          (with_reducible refine (DS _).mono ?_)
          rintro e w25 ⟨rfl, hb⟩; replace hS := hS.step hb; clear hb
          try go_wp2_with fail
          refine hKq.out _ _ (⟨hS.cell 0 rfl 0, hS.cell 0 rfl 1, hS.cell 0 rfl 2, hS.cell 11 rfl 0, hS.cell 11 rfl 1, hS.cell 11 rfl 2, hS.cell 10 rfl 0, hS.cell 10 rfl 1, hS.cell 10 rfl 2⟩) (fun hHeld => ?_)
          clear hKq Kq
          (try simp only [Act.put, List.setIfInBounds_toArray, List.set_cons_zero, List.set_cons_succ])
          first | (refine regW 8 (v := ?_) rfl (by rfl) (by kernel_rfl) (fun _ _ _ h => h) ?_ (by assumption) ?_; rotate_left; focus (intro w9 hSw; (try dsimp only at hSw); go_simp; (try with_reducible rfl); done)) | refine regU 8 rfl (by rfl) (by kernel_rfl) (fun _ _ _ h => h) (by assumption) ?_ | refine regN 8 rfl (by rfl) (by kernel_rfl) (by assumption) ?_
          try simp only [Act.put, List.setIfInBounds_toArray, List.set_cons_zero, List.set_cons_succ]
          first | (refine regW 9 (v := ?_) rfl (by rfl) (by kernel_rfl) (fun _ _ _ h => h) ?_ (by assumption) ?_; rotate_left; focus (intro w9 hSw; (try dsimp only at hSw); go_simp; (try with_reducible rfl); done)) | refine regU 9 rfl (by rfl) (by kernel_rfl) (fun _ _ _ h => h) (by assumption) ?_ | refine regN 9 rfl (by rfl) (by kernel_rfl) (by assumption) ?_
          try simp only [Act.put, List.setIfInBounds_toArray, List.set_cons_zero, List.set_cons_succ]
          first | (refine regW 10 (v := ?_) rfl (by rfl) (by kernel_rfl) (fun _ _ _ h => h) ?_ (by assumption) ?_; rotate_left; focus (intro w9 hSw; (try dsimp only at hSw); go_simp; (try with_reducible rfl); done)) | refine regU 10 rfl (by rfl) (by kernel_rfl) (fun _ _ _ h => h) (by assumption) ?_ | refine regN 10 rfl (by rfl) (by kernel_rfl) (by assumption) ?_
          try simp only [Act.put, List.setIfInBounds_toArray, List.set_cons_zero, List.set_cons_succ]
          first | (refine regW 11 (v := ?_) rfl (by rfl) (by kernel_rfl) (fun _ _ _ h => h) ?_ (by assumption) ?_; rotate_left; focus (intro w9 hSw; (try dsimp only at hSw); go_simp; (try with_reducible rfl); done)) | refine regU 11 rfl (by rfl) (by kernel_rfl) (fun _ _ _ h => h) (by assumption) ?_ | refine regN 11 rfl (by rfl) (by kernel_rfl) (by assumption) ?_
          try simp only [Act.put, List.setIfInBounds_toArray, List.set_cons_zero, List.set_cons_succ]
          first | (refine regW 12 (v := ?_) rfl (by rfl) (by kernel_rfl) (fun _ _ _ h => h) ?_ (by assumption) ?_; rotate_left; focus (intro w9 hSw; (try dsimp only at hSw); go_simp; (try with_reducible rfl); done)) | refine regU 12 rfl (by rfl) (by kernel_rfl) (fun _ _ _ h => h) (by assumption) ?_ | refine regN 12 rfl (by rfl) (by kernel_rfl) (by assumption) ?_
          try simp only [Act.put, List.setIfInBounds_toArray, List.set_cons_zero, List.set_cons_succ]
          first | (refine regW 13 (v := ?_) rfl (by rfl) (by kernel_rfl) (fun _ _ _ h => h) ?_ (by assumption) ?_; rotate_left; focus (intro w9 hSw; (try dsimp only at hSw); go_simp; (try with_reducible rfl); done)) | refine regU 13 rfl (by rfl) (by kernel_rfl) (fun _ _ _ h => h) (by assumption) ?_ | refine regN 13 rfl (by rfl) (by kernel_rfl) (by assumption) ?_
          try simp only [Act.put, List.setIfInBounds_toArray, List.set_cons_zero, List.set_cons_succ]
          refine regC 14 rfl (by kernel_rfl) (by rfl) (fun Kq hKq => ?_)
          go_simp
          (with_reducible refine (CT _).mono ?_)
          rintro e w26 ⟨rfl, hb⟩; replace hS := hS.step hb; clear hb
          try go_wp2_with fail
          refine hKq.out _ _ (⟨hS.cell 0 rfl 0, hS.cell 0 rfl 1, hS.cell 0 rfl 2, hS.cell 11 rfl 0, hS.cell 11 rfl 1, hS.cell 11 rfl 2, hS.cell 10 rfl 0, hS.cell 10 rfl 1, hS.cell 10 rfl 2⟩) (fun hHeld => ?_)
          clear hKq Kq
          (try simp only [Act.put, List.setIfInBounds_toArray, List.set_cons_zero, List.set_cons_succ])
          first | (refine regW 15 (v := ?_) rfl (by rfl) (by kernel_rfl) (fun _ _ _ h => h) ?_ (by assumption) ?_; rotate_left; focus (intro w9 hSw; (try dsimp only at hSw); go_simp; (try with_reducible rfl); done)) | refine regU 15 rfl (by rfl) (by kernel_rfl) (fun _ _ _ h => h) (by assumption) ?_ | refine regN 15 rfl (by rfl) (by kernel_rfl) (by assumption) ?_
          try simp only [Act.put, List.setIfInBounds_toArray, List.set_cons_zero, List.set_cons_succ]
          first | (refine regW 16 (v := ?_) rfl (by rfl) (by kernel_rfl) (fun _ _ _ h => h) ?_ (by assumption) ?_; rotate_left; focus (intro w9 hSw; (try dsimp only at hSw); go_simp; (try with_reducible rfl); done)) | refine regU 16 rfl (by rfl) (by kernel_rfl) (fun _ _ _ h => h) (by assumption) ?_ | refine regN 16 rfl (by rfl) (by kernel_rfl) (by assumption) ?_
          try simp only [Act.put, List.setIfInBounds_toArray, List.set_cons_zero, List.set_cons_succ]
          refine wpAnyH_done (by kernel_rfl) ?_ _
          clear hHeld
          have x_b3 := hS.cell 11 rfl
          have x_b4 := hS.cell 10 rfl
          have x_b6 := hS.cell 9 rfl
          have x_b8 := hS.cell 8 rfl
          have x_b10 := hS.cell 7 rfl
          have x_b12 := hS.cell 6 rfl
          have x_b14 := hS.cell 5 rfl
          have x_b16 := hS.cell 4 rfl
          have x_b18 := hS.cell 3 rfl
          have x_b20 := hS.cell 2 rfl
          have x_b22 := hS.cell 1 rfl
          have x_b24 := hS.cell 0 rfl
          go_wp2_with fail
          refine (DL _).mono ?_
          rintro e w27 ⟨rfl, hb⟩
          try clear x_b3
          try clear x_b4
          try clear x_b6
          try clear x_b8
          try clear x_b10
          try clear x_b12
          try clear x_b14
          try clear x_b16
          try clear x_b18
          try clear x_b20
          try clear x_b22
          try clear x_b24
          replace hS := hS.step hb
          clear hb
          have x_b3 := hS.cell 11 rfl
          have x_b4 := hS.cell 10 rfl
          have x_b6 := hS.cell 9 rfl
          have x_b8 := hS.cell 8 rfl
          have x_b10 := hS.cell 7 rfl
          have x_b12 := hS.cell 6 rfl
          have x_b14 := hS.cell 5 rfl
          have x_b16 := hS.cell 4 rfl
          have x_b18 := hS.cell 3 rfl
          have x_b20 := hS.cell 2 rfl
          have x_b22 := hS.cell 1 rfl
          have x_b24 := hS.cell 0 rfl
          try clear x_b3
          try clear x_b4
          try clear x_b6
          try clear x_b8
          try clear x_b10
          try clear x_b12
          try clear x_b14
          try clear x_b16
          try clear x_b18
          try clear x_b20
          try clear x_b22
          try clear x_b24
          try clear x_b28
          replace hS := hS.made (.cells #[.int .i64 L.k, .int .i64 L.n, .string L.s] 25 (0, 0))
          have x_b3 := hS.cell 12 rfl
          have x_b4 := hS.cell 11 rfl
          have x_b6 := hS.cell 10 rfl
          have x_b8 := hS.cell 9 rfl
          have x_b10 := hS.cell 8 rfl
          have x_b12 := hS.cell 7 rfl
          have x_b14 := hS.cell 6 rfl
          have x_b16 := hS.cell 5 rfl
          have x_b18 := hS.cell 4 rfl
          have x_b20 := hS.cell 3 rfl
          have x_b22 := hS.cell 2 rfl
          have x_b24 := hS.cell 1 rfl
          have x_b28 := hS.cell 0 rfl
          go_wp2
          go_ret
          exact ⟨ret_bool (by first | rfl | (simp only [decide_eq_true_eq]; rw [IntWalk.i64_in (by omega) (by omega), IntWalk.i64_in (by omega) (by omega)]; omega) | simp_all), hS.bel⟩
        · skip
          go_wp2_with fail
          refine (CL _).mono ?_
          rintro e w19 ⟨rfl, hb⟩
          try clear x_b3
          try clear x_b4
          try clear x_b6
          try clear x_b8
          try clear x_b10
          try clear x_b12
          try clear x_b14
          try clear x_b16
          try clear x_b18
          replace hS := hS.step hb
          clear hb
          have x_b3 := hS.cell 8 rfl
          have x_b4 := hS.cell 7 rfl
          have x_b6 := hS.cell 6 rfl
          have x_b8 := hS.cell 5 rfl
          have x_b10 := hS.cell 4 rfl
          have x_b12 := hS.cell 3 rfl
          have x_b14 := hS.cell 2 rfl
          have x_b16 := hS.cell 1 rfl
          have x_b18 := hS.cell 0 rfl
          try clear x_b3
          try clear x_b4
          try clear x_b6
          try clear x_b8
          try clear x_b10
          try clear x_b12
          try clear x_b14
          try clear x_b16
          try clear x_b18
          try clear x_b20
          replace hS := hS.made (.cells #[.int .i64 L.k, .int .i64 L.n, .string L.s] 25 (0, 0))
          have x_b3 := hS.cell 9 rfl
          have x_b4 := hS.cell 8 rfl
          have x_b6 := hS.cell 7 rfl
          have x_b8 := hS.cell 6 rfl
          have x_b10 := hS.cell 5 rfl
          have x_b12 := hS.cell 4 rfl
          have x_b14 := hS.cell 3 rfl
          have x_b16 := hS.cell 2 rfl
          have x_b18 := hS.cell 1 rfl
          have x_b20 := hS.cell 0 rfl
          go_wp2_with fail
          refine (CG _).mono ?_
          rintro e w21 ⟨rfl, hb⟩
          try clear x_b3
          try clear x_b4
          try clear x_b6
          try clear x_b8
          try clear x_b10
          try clear x_b12
          try clear x_b14
          try clear x_b16
          try clear x_b18
          try clear x_b20
          replace hS := hS.step hb
          clear hb
          have x_b3 := hS.cell 9 rfl
          have x_b4 := hS.cell 8 rfl
          have x_b6 := hS.cell 7 rfl
          have x_b8 := hS.cell 6 rfl
          have x_b10 := hS.cell 5 rfl
          have x_b12 := hS.cell 4 rfl
          have x_b14 := hS.cell 3 rfl
          have x_b16 := hS.cell 2 rfl
          have x_b18 := hS.cell 1 rfl
          have x_b20 := hS.cell 0 rfl
          try clear x_b3
          try clear x_b4
          try clear x_b6
          try clear x_b8
          try clear x_b10
          try clear x_b12
          try clear x_b14
          try clear x_b16
          try clear x_b18
          try clear x_b20
          try clear x_b22
          replace hS := hS.made (.cells #[.int .i64 G.k, .int .i64 G.n, .string G.s] 25 (0, 0))
          have x_b3 := hS.cell 10 rfl
          have x_b4 := hS.cell 9 rfl
          have x_b6 := hS.cell 8 rfl
          have x_b8 := hS.cell 7 rfl
          have x_b10 := hS.cell 6 rfl
          have x_b12 := hS.cell 5 rfl
          have x_b14 := hS.cell 4 rfl
          have x_b16 := hS.cell 3 rfl
          have x_b18 := hS.cell 2 rfl
          have x_b20 := hS.cell 1 rfl
          have x_b22 := hS.cell 0 rfl
          go_wp2_with fail
          refine (CS _).mono ?_
          rintro e w23 ⟨rfl, hb⟩
          try clear x_b3
          try clear x_b4
          try clear x_b6
          try clear x_b8
          try clear x_b10
          try clear x_b12
          try clear x_b14
          try clear x_b16
          try clear x_b18
          try clear x_b20
          try clear x_b22
          replace hS := hS.step hb
          clear hb
          have x_b3 := hS.cell 10 rfl
          have x_b4 := hS.cell 9 rfl
          have x_b6 := hS.cell 8 rfl
          have x_b8 := hS.cell 7 rfl
          have x_b10 := hS.cell 6 rfl
          have x_b12 := hS.cell 5 rfl
          have x_b14 := hS.cell 4 rfl
          have x_b16 := hS.cell 3 rfl
          have x_b18 := hS.cell 2 rfl
          have x_b20 := hS.cell 1 rfl
          have x_b22 := hS.cell 0 rfl
          try clear x_b3
          try clear x_b4
          try clear x_b6
          try clear x_b8
          try clear x_b10
          try clear x_b12
          try clear x_b14
          try clear x_b16
          try clear x_b18
          try clear x_b20
          try clear x_b22
          try clear x_b24
          replace hS := hS.made (.cells #[.int .i64 M.k, .int .i64 M.n, .string M.s] 25 (0, 0))
          have x_b3 := hS.cell 11 rfl
          have x_b4 := hS.cell 10 rfl
          have x_b6 := hS.cell 9 rfl
          have x_b8 := hS.cell 8 rfl
          have x_b10 := hS.cell 7 rfl
          have x_b12 := hS.cell 6 rfl
          have x_b14 := hS.cell 5 rfl
          have x_b16 := hS.cell 4 rfl
          have x_b18 := hS.cell 3 rfl
          have x_b20 := hS.cell 2 rfl
          have x_b22 := hS.cell 1 rfl
          have x_b24 := hS.cell 0 rfl
          go_wp2
          try clear x_b3
          try clear x_b4
          try clear x_b6
          try clear x_b8
          try clear x_b10
          try clear x_b12
          try clear x_b14
          try clear x_b16
          try clear x_b18
          try clear x_b20
          try clear x_b22
          try clear x_b24
          replace hS := hS.drew
          refine wp_region_held_drew (S := (fun w' => w'.cell? ⟨w23.heap.size, 0, none⟩ = some (.int .i64 M.k) ∧ w'.cell? ⟨w23.heap.size, 1, none⟩ = some (.int .i64 M.n) ∧ w'.cell? ⟨w23.heap.size, 2, none⟩ = some (.string M.s) ∧ w'.cell? ⟨w2.heap.size, 0, none⟩ = some (.int .i64 3) ∧ w'.cell? ⟨w2.heap.size, 1, none⟩ = some (.int .i64 0) ∧ w'.cell? ⟨w2.heap.size, 2, none⟩ = some (.string az) ∧ w'.cell? ⟨w2.heap.size + 1, 0, none⟩ = some (.int .i64 3) ∧ w'.cell? ⟨w2.heap.size + 1, 1, none⟩ = some (.int .i64 bn) ∧ w'.cell? ⟨w2.heap.size + 1, 2, none⟩ = some (.string bz))) (by kernel_rfl) (⟨hS.cell 0 rfl 0, hS.cell 0 rfl 1, hS.cell 0 rfl 2, hS.cell 11 rfl 0, hS.cell 11 rfl 1, hS.cell 11 rfl 2, hS.cell 10 rfl 0, hS.cell 10 rfl 1, hS.cell 10 rfl 2⟩) (fun hHeld => ?_)
          first | (refine regW 0 (v := ?_) rfl (by rfl) (by kernel_rfl) (fun _ _ _ h => h) ?_ (by assumption) ?_; rotate_left; focus (intro w9 hSw; (try dsimp only at hSw); go_simp; (try with_reducible rfl); done)) | refine regU 0 rfl (by rfl) (by kernel_rfl) (fun _ _ _ h => h) (by assumption) ?_ | refine regN 0 rfl (by rfl) (by kernel_rfl) (by assumption) ?_
          try simp only [Act.put, List.setIfInBounds_toArray, List.set_cons_zero, List.set_cons_succ]
          first | (refine regW 1 (v := ?_) rfl (by rfl) (by kernel_rfl) (fun _ _ _ h => h) ?_ (by assumption) ?_; rotate_left; focus (intro w9 hSw; (try dsimp only at hSw); go_simp; (try with_reducible rfl); done)) | refine regU 1 rfl (by rfl) (by kernel_rfl) (fun _ _ _ h => h) (by assumption) ?_ | refine regN 1 rfl (by rfl) (by kernel_rfl) (by assumption) ?_
          try simp only [Act.put, List.setIfInBounds_toArray, List.set_cons_zero, List.set_cons_succ]
          first | (refine regW 2 (v := ?_) rfl (by rfl) (by kernel_rfl) (fun _ _ _ h => h) ?_ (by assumption) ?_; rotate_left; focus (intro w9 hSw; (try dsimp only at hSw); go_simp; (try with_reducible rfl); done)) | refine regU 2 rfl (by rfl) (by kernel_rfl) (fun _ _ _ h => h) (by assumption) ?_ | refine regN 2 rfl (by rfl) (by kernel_rfl) (by assumption) ?_
          try simp only [Act.put, List.setIfInBounds_toArray, List.set_cons_zero, List.set_cons_succ]
          first | (refine regW 3 (v := ?_) rfl (by rfl) (by kernel_rfl) (fun _ _ _ h => h) ?_ (by assumption) ?_; rotate_left; focus (intro w9 hSw; (try dsimp only at hSw); go_simp; (try with_reducible rfl); done)) | refine regU 3 rfl (by rfl) (by kernel_rfl) (fun _ _ _ h => h) (by assumption) ?_ | refine regN 3 rfl (by rfl) (by kernel_rfl) (by assumption) ?_
          try simp only [Act.put, List.setIfInBounds_toArray, List.set_cons_zero, List.set_cons_succ]
          first | (refine regW 4 (v := ?_) rfl (by rfl) (by kernel_rfl) (fun _ _ _ h => h) ?_ (by assumption) ?_; rotate_left; focus (intro w9 hSw; (try dsimp only at hSw); go_simp; (try with_reducible rfl); done)) | refine regU 4 rfl (by rfl) (by kernel_rfl) (fun _ _ _ h => h) (by assumption) ?_ | refine regN 4 rfl (by rfl) (by kernel_rfl) (by assumption) ?_
          try simp only [Act.put, List.setIfInBounds_toArray, List.set_cons_zero, List.set_cons_succ]
          first | (refine regW 5 (v := ?_) rfl (by rfl) (by kernel_rfl) (fun _ _ _ h => h) ?_ (by assumption) ?_; rotate_left; focus (intro w9 hSw; (try dsimp only at hSw); go_simp; (try with_reducible rfl); done)) | refine regU 5 rfl (by rfl) (by kernel_rfl) (fun _ _ _ h => h) (by assumption) ?_ | refine regN 5 rfl (by rfl) (by kernel_rfl) (by assumption) ?_
          try simp only [Act.put, List.setIfInBounds_toArray, List.set_cons_zero, List.set_cons_succ]
          first | (refine regW 6 (v := ?_) rfl (by rfl) (by kernel_rfl) (fun _ _ _ h => h) ?_ (by assumption) ?_; rotate_left; focus (intro w9 hSw; (try dsimp only at hSw); go_simp; (try with_reducible rfl); done)) | refine regU 6 rfl (by rfl) (by kernel_rfl) (fun _ _ _ h => h) (by assumption) ?_ | refine regN 6 rfl (by rfl) (by kernel_rfl) (by assumption) ?_
          try simp only [Act.put, List.setIfInBounds_toArray, List.set_cons_zero, List.set_cons_succ]
          refine regC 7 rfl (by kernel_rfl) (by rfl) (fun Kq hKq => ?_)
          go_simp
          (with_reducible refine (DS _).mono ?_)
          rintro e w25 ⟨rfl, hb⟩; replace hS := hS.step hb; clear hb
          try go_wp2_with fail
          refine hKq.out _ _ (⟨hS.cell 0 rfl 0, hS.cell 0 rfl 1, hS.cell 0 rfl 2, hS.cell 11 rfl 0, hS.cell 11 rfl 1, hS.cell 11 rfl 2, hS.cell 10 rfl 0, hS.cell 10 rfl 1, hS.cell 10 rfl 2⟩) (fun hHeld => ?_)
          clear hKq Kq
          (try simp only [Act.put, List.setIfInBounds_toArray, List.set_cons_zero, List.set_cons_succ])
          first | (refine regW 8 (v := ?_) rfl (by rfl) (by kernel_rfl) (fun _ _ _ h => h) ?_ (by assumption) ?_; rotate_left; focus (intro w9 hSw; (try dsimp only at hSw); go_simp; (try with_reducible rfl); done)) | refine regU 8 rfl (by rfl) (by kernel_rfl) (fun _ _ _ h => h) (by assumption) ?_ | refine regN 8 rfl (by rfl) (by kernel_rfl) (by assumption) ?_
          try simp only [Act.put, List.setIfInBounds_toArray, List.set_cons_zero, List.set_cons_succ]
          first | (refine regW 9 (v := ?_) rfl (by rfl) (by kernel_rfl) (fun _ _ _ h => h) ?_ (by assumption) ?_; rotate_left; focus (intro w9 hSw; (try dsimp only at hSw); go_simp; (try with_reducible rfl); done)) | refine regU 9 rfl (by rfl) (by kernel_rfl) (fun _ _ _ h => h) (by assumption) ?_ | refine regN 9 rfl (by rfl) (by kernel_rfl) (by assumption) ?_
          try simp only [Act.put, List.setIfInBounds_toArray, List.set_cons_zero, List.set_cons_succ]
          first | (refine regW 10 (v := ?_) rfl (by rfl) (by kernel_rfl) (fun _ _ _ h => h) ?_ (by assumption) ?_; rotate_left; focus (intro w9 hSw; (try dsimp only at hSw); go_simp; (try with_reducible rfl); done)) | refine regU 10 rfl (by rfl) (by kernel_rfl) (fun _ _ _ h => h) (by assumption) ?_ | refine regN 10 rfl (by rfl) (by kernel_rfl) (by assumption) ?_
          try simp only [Act.put, List.setIfInBounds_toArray, List.set_cons_zero, List.set_cons_succ]
          first | (refine regW 11 (v := ?_) rfl (by rfl) (by kernel_rfl) (fun _ _ _ h => h) ?_ (by assumption) ?_; rotate_left; focus (intro w9 hSw; (try dsimp only at hSw); go_simp; (try with_reducible rfl); done)) | refine regU 11 rfl (by rfl) (by kernel_rfl) (fun _ _ _ h => h) (by assumption) ?_ | refine regN 11 rfl (by rfl) (by kernel_rfl) (by assumption) ?_
          try simp only [Act.put, List.setIfInBounds_toArray, List.set_cons_zero, List.set_cons_succ]
          first | (refine regW 12 (v := ?_) rfl (by rfl) (by kernel_rfl) (fun _ _ _ h => h) ?_ (by assumption) ?_; rotate_left; focus (intro w9 hSw; (try dsimp only at hSw); go_simp; (try with_reducible rfl); done)) | refine regU 12 rfl (by rfl) (by kernel_rfl) (fun _ _ _ h => h) (by assumption) ?_ | refine regN 12 rfl (by rfl) (by kernel_rfl) (by assumption) ?_
          try simp only [Act.put, List.setIfInBounds_toArray, List.set_cons_zero, List.set_cons_succ]
          first | (refine regW 13 (v := ?_) rfl (by rfl) (by kernel_rfl) (fun _ _ _ h => h) ?_ (by assumption) ?_; rotate_left; focus (intro w9 hSw; (try dsimp only at hSw); go_simp; (try with_reducible rfl); done)) | refine regU 13 rfl (by rfl) (by kernel_rfl) (fun _ _ _ h => h) (by assumption) ?_ | refine regN 13 rfl (by rfl) (by kernel_rfl) (by assumption) ?_
          try simp only [Act.put, List.setIfInBounds_toArray, List.set_cons_zero, List.set_cons_succ]
          refine regC 14 rfl (by kernel_rfl) (by rfl) (fun Kq hKq => ?_)
          go_simp
          (with_reducible refine (CT _).mono ?_)
          rintro e w26 ⟨rfl, hb⟩; replace hS := hS.step hb; clear hb
          try go_wp2_with fail
          refine hKq.out _ _ (⟨hS.cell 0 rfl 0, hS.cell 0 rfl 1, hS.cell 0 rfl 2, hS.cell 11 rfl 0, hS.cell 11 rfl 1, hS.cell 11 rfl 2, hS.cell 10 rfl 0, hS.cell 10 rfl 1, hS.cell 10 rfl 2⟩) (fun hHeld => ?_)
          clear hKq Kq
          (try simp only [Act.put, List.setIfInBounds_toArray, List.set_cons_zero, List.set_cons_succ])
          first | (refine regW 15 (v := ?_) rfl (by rfl) (by kernel_rfl) (fun _ _ _ h => h) ?_ (by assumption) ?_; rotate_left; focus (intro w9 hSw; (try dsimp only at hSw); go_simp; (try with_reducible rfl); done)) | refine regU 15 rfl (by rfl) (by kernel_rfl) (fun _ _ _ h => h) (by assumption) ?_ | refine regN 15 rfl (by rfl) (by kernel_rfl) (by assumption) ?_
          try simp only [Act.put, List.setIfInBounds_toArray, List.set_cons_zero, List.set_cons_succ]
          first | (refine regW 16 (v := ?_) rfl (by rfl) (by kernel_rfl) (fun _ _ _ h => h) ?_ (by assumption) ?_; rotate_left; focus (intro w9 hSw; (try dsimp only at hSw); go_simp; (try with_reducible rfl); done)) | refine regU 16 rfl (by rfl) (by kernel_rfl) (fun _ _ _ h => h) (by assumption) ?_ | refine regN 16 rfl (by rfl) (by kernel_rfl) (by assumption) ?_
          try simp only [Act.put, List.setIfInBounds_toArray, List.set_cons_zero, List.set_cons_succ]
          refine wpAnyH_done (by kernel_rfl) ?_ _
          clear hHeld
          have x_b3 := hS.cell 11 rfl
          have x_b4 := hS.cell 10 rfl
          have x_b6 := hS.cell 9 rfl
          have x_b8 := hS.cell 8 rfl
          have x_b10 := hS.cell 7 rfl
          have x_b12 := hS.cell 6 rfl
          have x_b14 := hS.cell 5 rfl
          have x_b16 := hS.cell 4 rfl
          have x_b18 := hS.cell 3 rfl
          have x_b20 := hS.cell 2 rfl
          have x_b22 := hS.cell 1 rfl
          have x_b24 := hS.cell 0 rfl
          go_wp2_with fail
          refine (DL _).mono ?_
          rintro e w27 ⟨rfl, hb⟩
          try clear x_b3
          try clear x_b4
          try clear x_b6
          try clear x_b8
          try clear x_b10
          try clear x_b12
          try clear x_b14
          try clear x_b16
          try clear x_b18
          try clear x_b20
          try clear x_b22
          try clear x_b24
          replace hS := hS.step hb
          clear hb
          have x_b3 := hS.cell 11 rfl
          have x_b4 := hS.cell 10 rfl
          have x_b6 := hS.cell 9 rfl
          have x_b8 := hS.cell 8 rfl
          have x_b10 := hS.cell 7 rfl
          have x_b12 := hS.cell 6 rfl
          have x_b14 := hS.cell 5 rfl
          have x_b16 := hS.cell 4 rfl
          have x_b18 := hS.cell 3 rfl
          have x_b20 := hS.cell 2 rfl
          have x_b22 := hS.cell 1 rfl
          have x_b24 := hS.cell 0 rfl
          try clear x_b3
          try clear x_b4
          try clear x_b6
          try clear x_b8
          try clear x_b10
          try clear x_b12
          try clear x_b14
          try clear x_b16
          try clear x_b18
          try clear x_b20
          try clear x_b22
          try clear x_b24
          try clear x_b28
          replace hS := hS.made (.cells #[.int .i64 L.k, .int .i64 L.n, .string L.s] 25 (0, 0))
          have x_b3 := hS.cell 12 rfl
          have x_b4 := hS.cell 11 rfl
          have x_b6 := hS.cell 10 rfl
          have x_b8 := hS.cell 9 rfl
          have x_b10 := hS.cell 8 rfl
          have x_b12 := hS.cell 7 rfl
          have x_b14 := hS.cell 6 rfl
          have x_b16 := hS.cell 5 rfl
          have x_b18 := hS.cell 4 rfl
          have x_b20 := hS.cell 3 rfl
          have x_b22 := hS.cell 2 rfl
          have x_b24 := hS.cell 1 rfl
          have x_b28 := hS.cell 0 rfl
          go_wp2
          go_ret
          exact ⟨ret_bool (by first | rfl | (simp only [decide_eq_true_eq]; rw [IntWalk.i64_in (by omega) (by omega), IntWalk.i64_in (by omega) (by omega)]; omega) | simp_all), hS.bel⟩
      · skip
        go_wp2_with fail
        refine (CL _).mono ?_
        rintro e w19 ⟨rfl, hb⟩
        try clear x_b3
        try clear x_b4
        try clear x_b6
        try clear x_b8
        try clear x_b10
        try clear x_b12
        try clear x_b14
        try clear x_b16
        try clear x_b18
        replace hS := hS.step hb
        clear hb
        have x_b3 := hS.cell 8 rfl
        have x_b4 := hS.cell 7 rfl
        have x_b6 := hS.cell 6 rfl
        have x_b8 := hS.cell 5 rfl
        have x_b10 := hS.cell 4 rfl
        have x_b12 := hS.cell 3 rfl
        have x_b14 := hS.cell 2 rfl
        have x_b16 := hS.cell 1 rfl
        have x_b18 := hS.cell 0 rfl
        try clear x_b3
        try clear x_b4
        try clear x_b6
        try clear x_b8
        try clear x_b10
        try clear x_b12
        try clear x_b14
        try clear x_b16
        try clear x_b18
        try clear x_b20
        replace hS := hS.made (.cells #[.int .i64 L.k, .int .i64 L.n, .string L.s] 25 (0, 0))
        have x_b3 := hS.cell 9 rfl
        have x_b4 := hS.cell 8 rfl
        have x_b6 := hS.cell 7 rfl
        have x_b8 := hS.cell 6 rfl
        have x_b10 := hS.cell 5 rfl
        have x_b12 := hS.cell 4 rfl
        have x_b14 := hS.cell 3 rfl
        have x_b16 := hS.cell 2 rfl
        have x_b18 := hS.cell 1 rfl
        have x_b20 := hS.cell 0 rfl
        go_wp2_with fail
        refine (CG _).mono ?_
        rintro e w21 ⟨rfl, hb⟩
        try clear x_b3
        try clear x_b4
        try clear x_b6
        try clear x_b8
        try clear x_b10
        try clear x_b12
        try clear x_b14
        try clear x_b16
        try clear x_b18
        try clear x_b20
        replace hS := hS.step hb
        clear hb
        have x_b3 := hS.cell 9 rfl
        have x_b4 := hS.cell 8 rfl
        have x_b6 := hS.cell 7 rfl
        have x_b8 := hS.cell 6 rfl
        have x_b10 := hS.cell 5 rfl
        have x_b12 := hS.cell 4 rfl
        have x_b14 := hS.cell 3 rfl
        have x_b16 := hS.cell 2 rfl
        have x_b18 := hS.cell 1 rfl
        have x_b20 := hS.cell 0 rfl
        try clear x_b3
        try clear x_b4
        try clear x_b6
        try clear x_b8
        try clear x_b10
        try clear x_b12
        try clear x_b14
        try clear x_b16
        try clear x_b18
        try clear x_b20
        try clear x_b22
        replace hS := hS.made (.cells #[.int .i64 G.k, .int .i64 G.n, .string G.s] 25 (0, 0))
        have x_b3 := hS.cell 10 rfl
        have x_b4 := hS.cell 9 rfl
        have x_b6 := hS.cell 8 rfl
        have x_b8 := hS.cell 7 rfl
        have x_b10 := hS.cell 6 rfl
        have x_b12 := hS.cell 5 rfl
        have x_b14 := hS.cell 4 rfl
        have x_b16 := hS.cell 3 rfl
        have x_b18 := hS.cell 2 rfl
        have x_b20 := hS.cell 1 rfl
        have x_b22 := hS.cell 0 rfl
        go_wp2_with fail
        refine (CS _).mono ?_
        rintro e w23 ⟨rfl, hb⟩
        try clear x_b3
        try clear x_b4
        try clear x_b6
        try clear x_b8
        try clear x_b10
        try clear x_b12
        try clear x_b14
        try clear x_b16
        try clear x_b18
        try clear x_b20
        try clear x_b22
        replace hS := hS.step hb
        clear hb
        have x_b3 := hS.cell 10 rfl
        have x_b4 := hS.cell 9 rfl
        have x_b6 := hS.cell 8 rfl
        have x_b8 := hS.cell 7 rfl
        have x_b10 := hS.cell 6 rfl
        have x_b12 := hS.cell 5 rfl
        have x_b14 := hS.cell 4 rfl
        have x_b16 := hS.cell 3 rfl
        have x_b18 := hS.cell 2 rfl
        have x_b20 := hS.cell 1 rfl
        have x_b22 := hS.cell 0 rfl
        try clear x_b3
        try clear x_b4
        try clear x_b6
        try clear x_b8
        try clear x_b10
        try clear x_b12
        try clear x_b14
        try clear x_b16
        try clear x_b18
        try clear x_b20
        try clear x_b22
        try clear x_b24
        replace hS := hS.made (.cells #[.int .i64 M.k, .int .i64 M.n, .string M.s] 25 (0, 0))
        have x_b3 := hS.cell 11 rfl
        have x_b4 := hS.cell 10 rfl
        have x_b6 := hS.cell 9 rfl
        have x_b8 := hS.cell 8 rfl
        have x_b10 := hS.cell 7 rfl
        have x_b12 := hS.cell 6 rfl
        have x_b14 := hS.cell 5 rfl
        have x_b16 := hS.cell 4 rfl
        have x_b18 := hS.cell 3 rfl
        have x_b20 := hS.cell 2 rfl
        have x_b22 := hS.cell 1 rfl
        have x_b24 := hS.cell 0 rfl
        go_wp2
        try clear x_b3
        try clear x_b4
        try clear x_b6
        try clear x_b8
        try clear x_b10
        try clear x_b12
        try clear x_b14
        try clear x_b16
        try clear x_b18
        try clear x_b20
        try clear x_b22
        try clear x_b24
        replace hS := hS.drew
        refine wp_region_held_drew (S := (fun w' => w'.cell? ⟨w23.heap.size, 0, none⟩ = some (.int .i64 M.k) ∧ w'.cell? ⟨w23.heap.size, 1, none⟩ = some (.int .i64 M.n) ∧ w'.cell? ⟨w23.heap.size, 2, none⟩ = some (.string M.s) ∧ w'.cell? ⟨w2.heap.size, 0, none⟩ = some (.int .i64 3) ∧ w'.cell? ⟨w2.heap.size, 1, none⟩ = some (.int .i64 an) ∧ w'.cell? ⟨w2.heap.size, 2, none⟩ = some (.string az) ∧ w'.cell? ⟨w2.heap.size + 1, 0, none⟩ = some (.int .i64 3) ∧ w'.cell? ⟨w2.heap.size + 1, 1, none⟩ = some (.int .i64 bn) ∧ w'.cell? ⟨w2.heap.size + 1, 2, none⟩ = some (.string bz))) (by kernel_rfl) (⟨hS.cell 0 rfl 0, hS.cell 0 rfl 1, hS.cell 0 rfl 2, hS.cell 11 rfl 0, hS.cell 11 rfl 1, hS.cell 11 rfl 2, hS.cell 10 rfl 0, hS.cell 10 rfl 1, hS.cell 10 rfl 2⟩) (fun hHeld => ?_)
        first | (refine regW 0 (v := ?_) rfl (by rfl) (by kernel_rfl) (fun _ _ _ h => h) ?_ (by assumption) ?_; rotate_left; focus (intro w9 hSw; (try dsimp only at hSw); go_simp; (try with_reducible rfl); done)) | refine regU 0 rfl (by rfl) (by kernel_rfl) (fun _ _ _ h => h) (by assumption) ?_ | refine regN 0 rfl (by rfl) (by kernel_rfl) (by assumption) ?_
        try simp only [Act.put, List.setIfInBounds_toArray, List.set_cons_zero, List.set_cons_succ]
        first | (refine regW 1 (v := ?_) rfl (by rfl) (by kernel_rfl) (fun _ _ _ h => h) ?_ (by assumption) ?_; rotate_left; focus (intro w9 hSw; (try dsimp only at hSw); go_simp; (try with_reducible rfl); done)) | refine regU 1 rfl (by rfl) (by kernel_rfl) (fun _ _ _ h => h) (by assumption) ?_ | refine regN 1 rfl (by rfl) (by kernel_rfl) (by assumption) ?_
        try simp only [Act.put, List.setIfInBounds_toArray, List.set_cons_zero, List.set_cons_succ]
        first | (refine regW 2 (v := ?_) rfl (by rfl) (by kernel_rfl) (fun _ _ _ h => h) ?_ (by assumption) ?_; rotate_left; focus (intro w9 hSw; (try dsimp only at hSw); go_simp; (try with_reducible rfl); done)) | refine regU 2 rfl (by rfl) (by kernel_rfl) (fun _ _ _ h => h) (by assumption) ?_ | refine regN 2 rfl (by rfl) (by kernel_rfl) (by assumption) ?_
        try simp only [Act.put, List.setIfInBounds_toArray, List.set_cons_zero, List.set_cons_succ]
        first | (refine regW 3 (v := ?_) rfl (by rfl) (by kernel_rfl) (fun _ _ _ h => h) ?_ (by assumption) ?_; rotate_left; focus (intro w9 hSw; (try dsimp only at hSw); go_simp; (try with_reducible rfl); done)) | refine regU 3 rfl (by rfl) (by kernel_rfl) (fun _ _ _ h => h) (by assumption) ?_ | refine regN 3 rfl (by rfl) (by kernel_rfl) (by assumption) ?_
        try simp only [Act.put, List.setIfInBounds_toArray, List.set_cons_zero, List.set_cons_succ]
        first | (refine regW 4 (v := ?_) rfl (by rfl) (by kernel_rfl) (fun _ _ _ h => h) ?_ (by assumption) ?_; rotate_left; focus (intro w9 hSw; (try dsimp only at hSw); go_simp; (try with_reducible rfl); done)) | refine regU 4 rfl (by rfl) (by kernel_rfl) (fun _ _ _ h => h) (by assumption) ?_ | refine regN 4 rfl (by rfl) (by kernel_rfl) (by assumption) ?_
        try simp only [Act.put, List.setIfInBounds_toArray, List.set_cons_zero, List.set_cons_succ]
        first | (refine regW 5 (v := ?_) rfl (by rfl) (by kernel_rfl) (fun _ _ _ h => h) ?_ (by assumption) ?_; rotate_left; focus (intro w9 hSw; (try dsimp only at hSw); go_simp; (try with_reducible rfl); done)) | refine regU 5 rfl (by rfl) (by kernel_rfl) (fun _ _ _ h => h) (by assumption) ?_ | refine regN 5 rfl (by rfl) (by kernel_rfl) (by assumption) ?_
        try simp only [Act.put, List.setIfInBounds_toArray, List.set_cons_zero, List.set_cons_succ]
        first | (refine regW 6 (v := ?_) rfl (by rfl) (by kernel_rfl) (fun _ _ _ h => h) ?_ (by assumption) ?_; rotate_left; focus (intro w9 hSw; (try dsimp only at hSw); go_simp; (try with_reducible rfl); done)) | refine regU 6 rfl (by rfl) (by kernel_rfl) (fun _ _ _ h => h) (by assumption) ?_ | refine regN 6 rfl (by rfl) (by kernel_rfl) (by assumption) ?_
        try simp only [Act.put, List.setIfInBounds_toArray, List.set_cons_zero, List.set_cons_succ]
        refine regC 7 rfl (by kernel_rfl) (by rfl) (fun Kq hKq => ?_)
        go_simp
        (with_reducible refine (DS _).mono ?_)
        rintro e w25 ⟨rfl, hb⟩; replace hS := hS.step hb; clear hb
        try go_wp2_with fail
        refine hKq.out _ _ (⟨hS.cell 0 rfl 0, hS.cell 0 rfl 1, hS.cell 0 rfl 2, hS.cell 11 rfl 0, hS.cell 11 rfl 1, hS.cell 11 rfl 2, hS.cell 10 rfl 0, hS.cell 10 rfl 1, hS.cell 10 rfl 2⟩) (fun hHeld => ?_)
        clear hKq Kq
        (try simp only [Act.put, List.setIfInBounds_toArray, List.set_cons_zero, List.set_cons_succ])
        first | (refine regW 8 (v := ?_) rfl (by rfl) (by kernel_rfl) (fun _ _ _ h => h) ?_ (by assumption) ?_; rotate_left; focus (intro w9 hSw; (try dsimp only at hSw); go_simp; (try with_reducible rfl); done)) | refine regU 8 rfl (by rfl) (by kernel_rfl) (fun _ _ _ h => h) (by assumption) ?_ | refine regN 8 rfl (by rfl) (by kernel_rfl) (by assumption) ?_
        try simp only [Act.put, List.setIfInBounds_toArray, List.set_cons_zero, List.set_cons_succ]
        first | (refine regW 9 (v := ?_) rfl (by rfl) (by kernel_rfl) (fun _ _ _ h => h) ?_ (by assumption) ?_; rotate_left; focus (intro w9 hSw; (try dsimp only at hSw); go_simp; (try with_reducible rfl); done)) | refine regU 9 rfl (by rfl) (by kernel_rfl) (fun _ _ _ h => h) (by assumption) ?_ | refine regN 9 rfl (by rfl) (by kernel_rfl) (by assumption) ?_
        try simp only [Act.put, List.setIfInBounds_toArray, List.set_cons_zero, List.set_cons_succ]
        first | (refine regW 10 (v := ?_) rfl (by rfl) (by kernel_rfl) (fun _ _ _ h => h) ?_ (by assumption) ?_; rotate_left; focus (intro w9 hSw; (try dsimp only at hSw); go_simp; (try with_reducible rfl); done)) | refine regU 10 rfl (by rfl) (by kernel_rfl) (fun _ _ _ h => h) (by assumption) ?_ | refine regN 10 rfl (by rfl) (by kernel_rfl) (by assumption) ?_
        try simp only [Act.put, List.setIfInBounds_toArray, List.set_cons_zero, List.set_cons_succ]
        first | (refine regW 11 (v := ?_) rfl (by rfl) (by kernel_rfl) (fun _ _ _ h => h) ?_ (by assumption) ?_; rotate_left; focus (intro w9 hSw; (try dsimp only at hSw); go_simp; (try with_reducible rfl); done)) | refine regU 11 rfl (by rfl) (by kernel_rfl) (fun _ _ _ h => h) (by assumption) ?_ | refine regN 11 rfl (by rfl) (by kernel_rfl) (by assumption) ?_
        try simp only [Act.put, List.setIfInBounds_toArray, List.set_cons_zero, List.set_cons_succ]
        first | (refine regW 12 (v := ?_) rfl (by rfl) (by kernel_rfl) (fun _ _ _ h => h) ?_ (by assumption) ?_; rotate_left; focus (intro w9 hSw; (try dsimp only at hSw); go_simp; (try with_reducible rfl); done)) | refine regU 12 rfl (by rfl) (by kernel_rfl) (fun _ _ _ h => h) (by assumption) ?_ | refine regN 12 rfl (by rfl) (by kernel_rfl) (by assumption) ?_
        try simp only [Act.put, List.setIfInBounds_toArray, List.set_cons_zero, List.set_cons_succ]
        first | (refine regW 13 (v := ?_) rfl (by rfl) (by kernel_rfl) (fun _ _ _ h => h) ?_ (by assumption) ?_; rotate_left; focus (intro w9 hSw; (try dsimp only at hSw); go_simp; (try with_reducible rfl); done)) | refine regU 13 rfl (by rfl) (by kernel_rfl) (fun _ _ _ h => h) (by assumption) ?_ | refine regN 13 rfl (by rfl) (by kernel_rfl) (by assumption) ?_
        try simp only [Act.put, List.setIfInBounds_toArray, List.set_cons_zero, List.set_cons_succ]
        refine regC 14 rfl (by kernel_rfl) (by rfl) (fun Kq hKq => ?_)
        go_simp
        (with_reducible refine (CT _).mono ?_)
        rintro e w26 ⟨rfl, hb⟩; replace hS := hS.step hb; clear hb
        try go_wp2_with fail
        refine hKq.out _ _ (⟨hS.cell 0 rfl 0, hS.cell 0 rfl 1, hS.cell 0 rfl 2, hS.cell 11 rfl 0, hS.cell 11 rfl 1, hS.cell 11 rfl 2, hS.cell 10 rfl 0, hS.cell 10 rfl 1, hS.cell 10 rfl 2⟩) (fun hHeld => ?_)
        clear hKq Kq
        (try simp only [Act.put, List.setIfInBounds_toArray, List.set_cons_zero, List.set_cons_succ])
        first | (refine regW 15 (v := ?_) rfl (by rfl) (by kernel_rfl) (fun _ _ _ h => h) ?_ (by assumption) ?_; rotate_left; focus (intro w9 hSw; (try dsimp only at hSw); go_simp; (try with_reducible rfl); done)) | refine regU 15 rfl (by rfl) (by kernel_rfl) (fun _ _ _ h => h) (by assumption) ?_ | refine regN 15 rfl (by rfl) (by kernel_rfl) (by assumption) ?_
        try simp only [Act.put, List.setIfInBounds_toArray, List.set_cons_zero, List.set_cons_succ]
        first | (refine regW 16 (v := ?_) rfl (by rfl) (by kernel_rfl) (fun _ _ _ h => h) ?_ (by assumption) ?_; rotate_left; focus (intro w9 hSw; (try dsimp only at hSw); go_simp; (try with_reducible rfl); done)) | refine regU 16 rfl (by rfl) (by kernel_rfl) (fun _ _ _ h => h) (by assumption) ?_ | refine regN 16 rfl (by rfl) (by kernel_rfl) (by assumption) ?_
        try simp only [Act.put, List.setIfInBounds_toArray, List.set_cons_zero, List.set_cons_succ]
        refine wpAnyH_done (by kernel_rfl) ?_ _
        clear hHeld
        have x_b3 := hS.cell 11 rfl
        have x_b4 := hS.cell 10 rfl
        have x_b6 := hS.cell 9 rfl
        have x_b8 := hS.cell 8 rfl
        have x_b10 := hS.cell 7 rfl
        have x_b12 := hS.cell 6 rfl
        have x_b14 := hS.cell 5 rfl
        have x_b16 := hS.cell 4 rfl
        have x_b18 := hS.cell 3 rfl
        have x_b20 := hS.cell 2 rfl
        have x_b22 := hS.cell 1 rfl
        have x_b24 := hS.cell 0 rfl
        go_wp2_with fail
        refine (DL _).mono ?_
        rintro e w27 ⟨rfl, hb⟩
        try clear x_b3
        try clear x_b4
        try clear x_b6
        try clear x_b8
        try clear x_b10
        try clear x_b12
        try clear x_b14
        try clear x_b16
        try clear x_b18
        try clear x_b20
        try clear x_b22
        try clear x_b24
        replace hS := hS.step hb
        clear hb
        have x_b3 := hS.cell 11 rfl
        have x_b4 := hS.cell 10 rfl
        have x_b6 := hS.cell 9 rfl
        have x_b8 := hS.cell 8 rfl
        have x_b10 := hS.cell 7 rfl
        have x_b12 := hS.cell 6 rfl
        have x_b14 := hS.cell 5 rfl
        have x_b16 := hS.cell 4 rfl
        have x_b18 := hS.cell 3 rfl
        have x_b20 := hS.cell 2 rfl
        have x_b22 := hS.cell 1 rfl
        have x_b24 := hS.cell 0 rfl
        try clear x_b3
        try clear x_b4
        try clear x_b6
        try clear x_b8
        try clear x_b10
        try clear x_b12
        try clear x_b14
        try clear x_b16
        try clear x_b18
        try clear x_b20
        try clear x_b22
        try clear x_b24
        try clear x_b28
        replace hS := hS.made (.cells #[.int .i64 L.k, .int .i64 L.n, .string L.s] 25 (0, 0))
        have x_b3 := hS.cell 12 rfl
        have x_b4 := hS.cell 11 rfl
        have x_b6 := hS.cell 10 rfl
        have x_b8 := hS.cell 9 rfl
        have x_b10 := hS.cell 8 rfl
        have x_b12 := hS.cell 7 rfl
        have x_b14 := hS.cell 6 rfl
        have x_b16 := hS.cell 5 rfl
        have x_b18 := hS.cell 4 rfl
        have x_b20 := hS.cell 3 rfl
        have x_b22 := hS.cell 2 rfl
        have x_b24 := hS.cell 1 rfl
        have x_b28 := hS.cell 0 rfl
        go_wp2
        go_ret
        exact ⟨ret_bool (by first | rfl | (simp only [decide_eq_true_eq]; rw [IntWalk.i64_in (by omega) (by omega), IntWalk.i64_in (by omega) (by omega)]; omega) | simp_all), hS.bel⟩
    · have k34 : ¬ (bk = 3 ∧ ak = 3) := fun h => k33 ⟨h.2, h.1⟩
      have tn : t ≠ 0 := by have h9 : lessT ⟨ak, an, az⟩ ⟨bk, bn, bz⟩ = t := Ht; rw [← h9]; simp [lessT, k1, k33, k34]
      have hL : L = V.zero := by have h9 : lessV ⟨ak, an, az⟩ ⟨bk, bn, bz⟩ = L := HL; rw [← h9]; simp [lessV, k1, k33, k34]
      have hG : G = V.zero := by have h9 : lessV ⟨bk, bn, bz⟩ ⟨ak, an, az⟩ = G := HG; rw [← h9]; simp [lessV, k1, k33, k34]
      subst hL hG
      dsimp only [V.zero] at *
      go_wp2_with fail
      refine (CL _).mono ?_
      rintro e w19 ⟨rfl, hb⟩
      try clear x_b3
      try clear x_b4
      try clear x_b6
      try clear x_b8
      try clear x_b10
      try clear x_b12
      try clear x_b14
      try clear x_b16
      try clear x_b18
      replace hS := hS.step hb
      clear hb
      have x_b3 := hS.cell 8 rfl
      have x_b4 := hS.cell 7 rfl
      have x_b6 := hS.cell 6 rfl
      have x_b8 := hS.cell 5 rfl
      have x_b10 := hS.cell 4 rfl
      have x_b12 := hS.cell 3 rfl
      have x_b14 := hS.cell 2 rfl
      have x_b16 := hS.cell 1 rfl
      have x_b18 := hS.cell 0 rfl
      try clear x_b3
      try clear x_b4
      try clear x_b6
      try clear x_b8
      try clear x_b10
      try clear x_b12
      try clear x_b14
      try clear x_b16
      try clear x_b18
      try clear x_b20
      replace hS := hS.made (.cells #[.int .i64 0, .int .i64 0, .string (⟨#[]⟩ : ByteArray)] 25 (0, 0))
      have x_b3 := hS.cell 9 rfl
      have x_b4 := hS.cell 8 rfl
      have x_b6 := hS.cell 7 rfl
      have x_b8 := hS.cell 6 rfl
      have x_b10 := hS.cell 5 rfl
      have x_b12 := hS.cell 4 rfl
      have x_b14 := hS.cell 3 rfl
      have x_b16 := hS.cell 2 rfl
      have x_b18 := hS.cell 1 rfl
      have x_b20 := hS.cell 0 rfl
      go_wp2_with fail
      refine (CG _).mono ?_
      rintro e w21 ⟨rfl, hb⟩
      try clear x_b3
      try clear x_b4
      try clear x_b6
      try clear x_b8
      try clear x_b10
      try clear x_b12
      try clear x_b14
      try clear x_b16
      try clear x_b18
      try clear x_b20
      replace hS := hS.step hb
      clear hb
      have x_b3 := hS.cell 9 rfl
      have x_b4 := hS.cell 8 rfl
      have x_b6 := hS.cell 7 rfl
      have x_b8 := hS.cell 6 rfl
      have x_b10 := hS.cell 5 rfl
      have x_b12 := hS.cell 4 rfl
      have x_b14 := hS.cell 3 rfl
      have x_b16 := hS.cell 2 rfl
      have x_b18 := hS.cell 1 rfl
      have x_b20 := hS.cell 0 rfl
      try clear x_b3
      try clear x_b4
      try clear x_b6
      try clear x_b8
      try clear x_b10
      try clear x_b12
      try clear x_b14
      try clear x_b16
      try clear x_b18
      try clear x_b20
      try clear x_b22
      replace hS := hS.made (.cells #[.int .i64 0, .int .i64 0, .string (⟨#[]⟩ : ByteArray)] 25 (0, 0))
      have x_b3 := hS.cell 10 rfl
      have x_b4 := hS.cell 9 rfl
      have x_b6 := hS.cell 8 rfl
      have x_b8 := hS.cell 7 rfl
      have x_b10 := hS.cell 6 rfl
      have x_b12 := hS.cell 5 rfl
      have x_b14 := hS.cell 4 rfl
      have x_b16 := hS.cell 3 rfl
      have x_b18 := hS.cell 2 rfl
      have x_b20 := hS.cell 1 rfl
      have x_b22 := hS.cell 0 rfl
      go_wp2_with fail
      refine (CS _).mono ?_
      rintro e w23 ⟨rfl, hb⟩
      try clear x_b3
      try clear x_b4
      try clear x_b6
      try clear x_b8
      try clear x_b10
      try clear x_b12
      try clear x_b14
      try clear x_b16
      try clear x_b18
      try clear x_b20
      try clear x_b22
      replace hS := hS.step hb
      clear hb
      have x_b3 := hS.cell 10 rfl
      have x_b4 := hS.cell 9 rfl
      have x_b6 := hS.cell 8 rfl
      have x_b8 := hS.cell 7 rfl
      have x_b10 := hS.cell 6 rfl
      have x_b12 := hS.cell 5 rfl
      have x_b14 := hS.cell 4 rfl
      have x_b16 := hS.cell 3 rfl
      have x_b18 := hS.cell 2 rfl
      have x_b20 := hS.cell 1 rfl
      have x_b22 := hS.cell 0 rfl
      try clear x_b3
      try clear x_b4
      try clear x_b6
      try clear x_b8
      try clear x_b10
      try clear x_b12
      try clear x_b14
      try clear x_b16
      try clear x_b18
      try clear x_b20
      try clear x_b22
      try clear x_b24
      replace hS := hS.made (.cells #[.int .i64 M.k, .int .i64 M.n, .string M.s] 25 (0, 0))
      have x_b3 := hS.cell 11 rfl
      have x_b4 := hS.cell 10 rfl
      have x_b6 := hS.cell 9 rfl
      have x_b8 := hS.cell 8 rfl
      have x_b10 := hS.cell 7 rfl
      have x_b12 := hS.cell 6 rfl
      have x_b14 := hS.cell 5 rfl
      have x_b16 := hS.cell 4 rfl
      have x_b18 := hS.cell 3 rfl
      have x_b20 := hS.cell 2 rfl
      have x_b22 := hS.cell 1 rfl
      have x_b24 := hS.cell 0 rfl
      go_wp2
      try clear x_b3
      try clear x_b4
      try clear x_b6
      try clear x_b8
      try clear x_b10
      try clear x_b12
      try clear x_b14
      try clear x_b16
      try clear x_b18
      try clear x_b20
      try clear x_b22
      try clear x_b24
      replace hS := hS.drew
      refine wp_region_held_drew (S := (fun w' => w'.cell? ⟨w23.heap.size, 0, none⟩ = some (.int .i64 M.k) ∧ w'.cell? ⟨w23.heap.size, 1, none⟩ = some (.int .i64 M.n) ∧ w'.cell? ⟨w23.heap.size, 2, none⟩ = some (.string M.s) ∧ w'.cell? ⟨w2.heap.size, 0, none⟩ = some (.int .i64 ak) ∧ w'.cell? ⟨w2.heap.size, 1, none⟩ = some (.int .i64 an) ∧ w'.cell? ⟨w2.heap.size, 2, none⟩ = some (.string az) ∧ w'.cell? ⟨w2.heap.size + 1, 0, none⟩ = some (.int .i64 bk) ∧ w'.cell? ⟨w2.heap.size + 1, 1, none⟩ = some (.int .i64 bn) ∧ w'.cell? ⟨w2.heap.size + 1, 2, none⟩ = some (.string bz))) (by kernel_rfl) (⟨hS.cell 0 rfl 0, hS.cell 0 rfl 1, hS.cell 0 rfl 2, hS.cell 11 rfl 0, hS.cell 11 rfl 1, hS.cell 11 rfl 2, hS.cell 10 rfl 0, hS.cell 10 rfl 1, hS.cell 10 rfl 2⟩) (fun hHeld => ?_)
      first | (refine regW 0 (v := ?_) rfl (by rfl) (by kernel_rfl) (fun _ _ _ h => h) ?_ (by assumption) ?_; rotate_left; focus (intro w9 hSw; (try dsimp only at hSw); go_simp; (try with_reducible rfl); done)) | refine regU 0 rfl (by rfl) (by kernel_rfl) (fun _ _ _ h => h) (by assumption) ?_ | refine regN 0 rfl (by rfl) (by kernel_rfl) (by assumption) ?_
      try simp only [Act.put, List.setIfInBounds_toArray, List.set_cons_zero, List.set_cons_succ]
      first | (refine regW 1 (v := ?_) rfl (by rfl) (by kernel_rfl) (fun _ _ _ h => h) ?_ (by assumption) ?_; rotate_left; focus (intro w9 hSw; (try dsimp only at hSw); go_simp; (try with_reducible rfl); done)) | refine regU 1 rfl (by rfl) (by kernel_rfl) (fun _ _ _ h => h) (by assumption) ?_ | refine regN 1 rfl (by rfl) (by kernel_rfl) (by assumption) ?_
      try simp only [Act.put, List.setIfInBounds_toArray, List.set_cons_zero, List.set_cons_succ]
      first | (refine regW 2 (v := ?_) rfl (by rfl) (by kernel_rfl) (fun _ _ _ h => h) ?_ (by assumption) ?_; rotate_left; focus (intro w9 hSw; (try dsimp only at hSw); go_simp; (try with_reducible rfl); done)) | refine regU 2 rfl (by rfl) (by kernel_rfl) (fun _ _ _ h => h) (by assumption) ?_ | refine regN 2 rfl (by rfl) (by kernel_rfl) (by assumption) ?_
      try simp only [Act.put, List.setIfInBounds_toArray, List.set_cons_zero, List.set_cons_succ]
      first | (refine regW 3 (v := ?_) rfl (by rfl) (by kernel_rfl) (fun _ _ _ h => h) ?_ (by assumption) ?_; rotate_left; focus (intro w9 hSw; (try dsimp only at hSw); go_simp; (try with_reducible rfl); done)) | refine regU 3 rfl (by rfl) (by kernel_rfl) (fun _ _ _ h => h) (by assumption) ?_ | refine regN 3 rfl (by rfl) (by kernel_rfl) (by assumption) ?_
      try simp only [Act.put, List.setIfInBounds_toArray, List.set_cons_zero, List.set_cons_succ]
      first | (refine regW 4 (v := ?_) rfl (by rfl) (by kernel_rfl) (fun _ _ _ h => h) ?_ (by assumption) ?_; rotate_left; focus (intro w9 hSw; (try dsimp only at hSw); go_simp; (try with_reducible rfl); done)) | refine regU 4 rfl (by rfl) (by kernel_rfl) (fun _ _ _ h => h) (by assumption) ?_ | refine regN 4 rfl (by rfl) (by kernel_rfl) (by assumption) ?_
      try simp only [Act.put, List.setIfInBounds_toArray, List.set_cons_zero, List.set_cons_succ]
      first | (refine regW 5 (v := ?_) rfl (by rfl) (by kernel_rfl) (fun _ _ _ h => h) ?_ (by assumption) ?_; rotate_left; focus (intro w9 hSw; (try dsimp only at hSw); go_simp; (try with_reducible rfl); done)) | refine regU 5 rfl (by rfl) (by kernel_rfl) (fun _ _ _ h => h) (by assumption) ?_ | refine regN 5 rfl (by rfl) (by kernel_rfl) (by assumption) ?_
      try simp only [Act.put, List.setIfInBounds_toArray, List.set_cons_zero, List.set_cons_succ]
      first | (refine regW 6 (v := ?_) rfl (by rfl) (by kernel_rfl) (fun _ _ _ h => h) ?_ (by assumption) ?_; rotate_left; focus (intro w9 hSw; (try dsimp only at hSw); go_simp; (try with_reducible rfl); done)) | refine regU 6 rfl (by rfl) (by kernel_rfl) (fun _ _ _ h => h) (by assumption) ?_ | refine regN 6 rfl (by rfl) (by kernel_rfl) (by assumption) ?_
      try simp only [Act.put, List.setIfInBounds_toArray, List.set_cons_zero, List.set_cons_succ]
      refine regC 7 rfl (by kernel_rfl) (by rfl) (fun Kq hKq => ?_)
      go_simp
      (with_reducible refine (DS _).mono ?_)
      rintro e w25 ⟨rfl, hb⟩; replace hS := hS.step hb; clear hb
      try go_wp2_with fail
      refine hKq.out _ _ (⟨hS.cell 0 rfl 0, hS.cell 0 rfl 1, hS.cell 0 rfl 2, hS.cell 11 rfl 0, hS.cell 11 rfl 1, hS.cell 11 rfl 2, hS.cell 10 rfl 0, hS.cell 10 rfl 1, hS.cell 10 rfl 2⟩) (fun hHeld => ?_)
      clear hKq Kq
      (try simp only [Act.put, List.setIfInBounds_toArray, List.set_cons_zero, List.set_cons_succ])
      first | (refine regW 8 (v := ?_) rfl (by rfl) (by kernel_rfl) (fun _ _ _ h => h) ?_ (by assumption) ?_; rotate_left; focus (intro w9 hSw; (try dsimp only at hSw); go_simp; (try with_reducible rfl); done)) | refine regU 8 rfl (by rfl) (by kernel_rfl) (fun _ _ _ h => h) (by assumption) ?_ | refine regN 8 rfl (by rfl) (by kernel_rfl) (by assumption) ?_
      try simp only [Act.put, List.setIfInBounds_toArray, List.set_cons_zero, List.set_cons_succ]
      first | (refine regW 9 (v := ?_) rfl (by rfl) (by kernel_rfl) (fun _ _ _ h => h) ?_ (by assumption) ?_; rotate_left; focus (intro w9 hSw; (try dsimp only at hSw); go_simp; (try with_reducible rfl); done)) | refine regU 9 rfl (by rfl) (by kernel_rfl) (fun _ _ _ h => h) (by assumption) ?_ | refine regN 9 rfl (by rfl) (by kernel_rfl) (by assumption) ?_
      try simp only [Act.put, List.setIfInBounds_toArray, List.set_cons_zero, List.set_cons_succ]
      first | (refine regW 10 (v := ?_) rfl (by rfl) (by kernel_rfl) (fun _ _ _ h => h) ?_ (by assumption) ?_; rotate_left; focus (intro w9 hSw; (try dsimp only at hSw); go_simp; (try with_reducible rfl); done)) | refine regU 10 rfl (by rfl) (by kernel_rfl) (fun _ _ _ h => h) (by assumption) ?_ | refine regN 10 rfl (by rfl) (by kernel_rfl) (by assumption) ?_
      try simp only [Act.put, List.setIfInBounds_toArray, List.set_cons_zero, List.set_cons_succ]
      first | (refine regW 11 (v := ?_) rfl (by rfl) (by kernel_rfl) (fun _ _ _ h => h) ?_ (by assumption) ?_; rotate_left; focus (intro w9 hSw; (try dsimp only at hSw); go_simp; (try with_reducible rfl); done)) | refine regU 11 rfl (by rfl) (by kernel_rfl) (fun _ _ _ h => h) (by assumption) ?_ | refine regN 11 rfl (by rfl) (by kernel_rfl) (by assumption) ?_
      try simp only [Act.put, List.setIfInBounds_toArray, List.set_cons_zero, List.set_cons_succ]
      first | (refine regW 12 (v := ?_) rfl (by rfl) (by kernel_rfl) (fun _ _ _ h => h) ?_ (by assumption) ?_; rotate_left; focus (intro w9 hSw; (try dsimp only at hSw); go_simp; (try with_reducible rfl); done)) | refine regU 12 rfl (by rfl) (by kernel_rfl) (fun _ _ _ h => h) (by assumption) ?_ | refine regN 12 rfl (by rfl) (by kernel_rfl) (by assumption) ?_
      try simp only [Act.put, List.setIfInBounds_toArray, List.set_cons_zero, List.set_cons_succ]
      first | (refine regW 13 (v := ?_) rfl (by rfl) (by kernel_rfl) (fun _ _ _ h => h) ?_ (by assumption) ?_; rotate_left; focus (intro w9 hSw; (try dsimp only at hSw); go_simp; (try with_reducible rfl); done)) | refine regU 13 rfl (by rfl) (by kernel_rfl) (fun _ _ _ h => h) (by assumption) ?_ | refine regN 13 rfl (by rfl) (by kernel_rfl) (by assumption) ?_
      try simp only [Act.put, List.setIfInBounds_toArray, List.set_cons_zero, List.set_cons_succ]
      refine regC 14 rfl (by kernel_rfl) (by rfl) (fun Kq hKq => ?_)
      go_simp
      (with_reducible refine (CT _).mono ?_)
      rintro e w26 ⟨rfl, hb⟩; replace hS := hS.step hb; clear hb
      try go_wp2_with fail
      refine hKq.out _ _ (⟨hS.cell 0 rfl 0, hS.cell 0 rfl 1, hS.cell 0 rfl 2, hS.cell 11 rfl 0, hS.cell 11 rfl 1, hS.cell 11 rfl 2, hS.cell 10 rfl 0, hS.cell 10 rfl 1, hS.cell 10 rfl 2⟩) (fun hHeld => ?_)
      clear hKq Kq
      (try simp only [Act.put, List.setIfInBounds_toArray, List.set_cons_zero, List.set_cons_succ])
      first | (refine regW 15 (v := ?_) rfl (by rfl) (by kernel_rfl) (fun _ _ _ h => h) ?_ (by assumption) ?_; rotate_left; focus (intro w9 hSw; (try dsimp only at hSw); go_simp; (try with_reducible rfl); done)) | refine regU 15 rfl (by rfl) (by kernel_rfl) (fun _ _ _ h => h) (by assumption) ?_ | refine regN 15 rfl (by rfl) (by kernel_rfl) (by assumption) ?_
      try simp only [Act.put, List.setIfInBounds_toArray, List.set_cons_zero, List.set_cons_succ]
      first | (refine regW 16 (v := ?_) rfl (by rfl) (by kernel_rfl) (fun _ _ _ h => h) ?_ (by assumption) ?_; rotate_left; focus (intro w9 hSw; (try dsimp only at hSw); go_simp; (try with_reducible rfl); done)) | refine regU 16 rfl (by rfl) (by kernel_rfl) (fun _ _ _ h => h) (by assumption) ?_ | refine regN 16 rfl (by rfl) (by kernel_rfl) (by assumption) ?_
      try simp only [Act.put, List.setIfInBounds_toArray, List.set_cons_zero, List.set_cons_succ]
      refine wpAnyH_done (by kernel_rfl) ?_ _
      clear hHeld
      have x_b3 := hS.cell 11 rfl
      have x_b4 := hS.cell 10 rfl
      have x_b6 := hS.cell 9 rfl
      have x_b8 := hS.cell 8 rfl
      have x_b10 := hS.cell 7 rfl
      have x_b12 := hS.cell 6 rfl
      have x_b14 := hS.cell 5 rfl
      have x_b16 := hS.cell 4 rfl
      have x_b18 := hS.cell 3 rfl
      have x_b20 := hS.cell 2 rfl
      have x_b22 := hS.cell 1 rfl
      have x_b24 := hS.cell 0 rfl
      go_wp2_with fail
      refine (DL _).mono ?_
      rintro e w27 ⟨rfl, hb⟩
      try clear x_b3
      try clear x_b4
      try clear x_b6
      try clear x_b8
      try clear x_b10
      try clear x_b12
      try clear x_b14
      try clear x_b16
      try clear x_b18
      try clear x_b20
      try clear x_b22
      try clear x_b24
      replace hS := hS.step hb
      clear hb
      have x_b3 := hS.cell 11 rfl
      have x_b4 := hS.cell 10 rfl
      have x_b6 := hS.cell 9 rfl
      have x_b8 := hS.cell 8 rfl
      have x_b10 := hS.cell 7 rfl
      have x_b12 := hS.cell 6 rfl
      have x_b14 := hS.cell 5 rfl
      have x_b16 := hS.cell 4 rfl
      have x_b18 := hS.cell 3 rfl
      have x_b20 := hS.cell 2 rfl
      have x_b22 := hS.cell 1 rfl
      have x_b24 := hS.cell 0 rfl
      try clear x_b3
      try clear x_b4
      try clear x_b6
      try clear x_b8
      try clear x_b10
      try clear x_b12
      try clear x_b14
      try clear x_b16
      try clear x_b18
      try clear x_b20
      try clear x_b22
      try clear x_b24
      try clear x_b28
      replace hS := hS.made (.cells #[.int .i64 0, .int .i64 0, .string (⟨#[]⟩ : ByteArray)] 25 (0, 0))
      have x_b3 := hS.cell 12 rfl
      have x_b4 := hS.cell 11 rfl
      have x_b6 := hS.cell 10 rfl
      have x_b8 := hS.cell 9 rfl
      have x_b10 := hS.cell 8 rfl
      have x_b12 := hS.cell 7 rfl
      have x_b14 := hS.cell 6 rfl
      have x_b16 := hS.cell 5 rfl
      have x_b18 := hS.cell 4 rfl
      have x_b20 := hS.cell 3 rfl
      have x_b22 := hS.cell 2 rfl
      have x_b24 := hS.cell 1 rfl
      have x_b28 := hS.cell 0 rfl
      go_wp2
      go_ret
      exact ⟨ret_bool (by first | rfl | (simp only [decide_eq_true_eq]; rw [IntWalk.i64_in (by omega) (by omega), IntWalk.i64_in (by omega) (by omega)]; omega) | simp_all), hS.bel⟩
end Go.Proofs.Ytpjdecneeakkeaa.Dat
