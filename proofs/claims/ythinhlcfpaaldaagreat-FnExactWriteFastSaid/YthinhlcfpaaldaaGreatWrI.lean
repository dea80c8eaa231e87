/- Numbers written behind a pointer: the program's writer and the reference's. -/
import Derived.Test.YthinhlcfpaaldaaGreatTn
import Derived.Test.YthinhlcfpaaldaaGreatWrP
import Derived.Test.YthinhlcfpaaldaaGreatM1
namespace Go.Proofs.YthinhlcfpaaldaaGreat.Dat
open Go Go.RowKit Go.Proofs.YthinhlcfpaaldaaGreat.Mem
set_option linter.unusedVariables false
set_option linter.unusedSimpArgs false
set_option maxHeartbeats 2000000 in
set_option maxRecDepth 100000 in
theorem wPutN {w0 W : World} {L : List Res} {g : Nat} {v : Value} {xs : List Int} {F : List Nat} (zs : List Int) (B c : Nat) (t' : TypeId) (fr : Nat × Nat) (hS : St w0 (Res.wr 240 g 3 v xs F :: L) W) (hB : W.heap[B]? = some (.cells (zs.map (Value.int .i64)).toArray t' fr)) (n : Nat) (hn : n = zs.length) (hz : 0 < zs.length) (hb : xs.length + zs.length ≤ 1099511627776) :
    Calls Tryz.prog 172 #[.pointer (some ⟨g, 0, none⟩), .slice (some ⟨B, 0, none⟩) n c] W (Wrote w0 W 240 g 3 v xs F (xs ++ zs)) := by
  subst hn
  have T := (Tn.of hS 0 rfl)
  have x0 := T.wcell
  have f0 := T.wfree
  go_enter Tryz.func172, Tryz.ntmps172
  go_wp2_with (at_builtin; refine Knd.wp_appN rfl _ _ _ rfl 3 Tryz.underlying81 infoInt rfl T.wown zs B t' fr c hB rfl hz hb ?_; rintro gq cq wq hO hBt hg; have hkp := T.wkeep hBt; have x2 := hkp.1; have f2 := hkp.2; have T2 := T.wput hO hBt (by simp) (fun q hq => by rw [List.mem_singleton.1 hq]; exact hg); clear hkp)
  go_end0
  exact ⟨rfl, _, _, T2⟩
set_option maxHeartbeats 2000000 in
set_option maxRecDepth 100000 in
theorem wPut3 {w0 W : World} {L : List Res} {g : Nat} {v : Value} {xs : List Int} {F : List Nat} (z : Int) (hS : St w0 (Res.wr 141 g 3 v xs F :: L) W) (hb : xs.length + 1 ≤ 1099511627776) :
    Calls Tryz.prog 100 #[.pointer (some ⟨g, 0, none⟩), .int .i64 z] W (Wrote w0 W 141 g 3 v xs F (xs ++ [z])) := by
  have T := (Tn.of hS 0 rfl).al (.cells #[.int .i64 z] 3 (0, 0))
  have x0 := T.wcell
  have f0 := T.wfree
  have x1 := (Tn.of hS 0 rfl).wcell
  go_enter Tryz.func100, Tryz.ntmps100
  go_wp2_with (at_builtin; refine Knd.wp_appN rfl _ _ _ rfl 3 Tryz.underlying81 infoInt rfl T.wown [z] _ _ _ _ (blk_new _ _) rfl (by simp) (by simp; omega) ?_; rintro gq cq wq hO hBt hg; have hkp := T.wkeep hBt; have x2 := hkp.1; have f2 := hkp.2; have T2 := T.wput hO hBt (by simp) (fun q hq => by rw [List.mem_singleton.1 hq]; exact hg); clear hkp)
  go_end0
  exact ⟨rfl, _, _, T2⟩
theorem byte_at (s : ByteArray) (k : Nat) (hk : k < s.size) : ((s[k]!).toNat : Int) = ((s[k]).toNat : Int) := by rw [getElem!_pos s k hk]
theorem wrap_byte (b : UInt8) : wrap64 ((b.toNat : Nat) : Int) = ((b.toNat : Nat) : Int) := by
  have : b.toNat < 256 := b.toNat_lt
  exact IntWalk.wrap64_in _ (by omega)
/-- One number put by the program. -/
theorem wPut1 {w0 W : World} {L : List Res} {g : Nat} {v : Value} {xs : List Int} {F : List Nat} (z : Int) (B c : Nat) (t' : TypeId) (hS : St w0 (Res.wr 240 g 3 v xs F :: L) W) (hg : W.heap.size = B) (hb : xs.length + 1 ≤ 1099511627776) :
    Calls Tryz.prog 172 #[.pointer (some ⟨g, 0, none⟩), .slice (some ⟨B, 0, none⟩) 1 c] (W.alloc (.cells #[.int .i64 z] t' (0, 0))) fun e W' => e = .returned (.tuple #[]) ∧ ∃ v' F', Tn w0 W (Res.wr 240 g 3 v xs F) (Res.wr 240 g 3 v' (xs ++ [z]) F') [] W' := by
  subst hg
  refine (wPutN [z] W.heap.size c t' (0, 0) (hS.al _) (blk_new _ _) 1 rfl (by simp) (by simpa using hb)).mono ?_
  rintro e W' ⟨rfl, v', F', T⟩
  exact ⟨rfl, v', F', ((Tn.of hS 0 rfl).al _).turn T⟩
theorem wPut2 {w0 W : World} {L : List Res} {g : Nat} {v : Value} {xs : List Int} {F : List Nat} (z y : Int) (B c : Nat) (t' : TypeId) (hS : St w0 (Res.wr 240 g 3 v xs F :: L) W) (hg : W.heap.size = B) (hb : xs.length + 2 ≤ 1099511627776) :
    Calls Tryz.prog 172 #[.pointer (some ⟨g, 0, none⟩), .slice (some ⟨B, 0, none⟩) 2 c] (W.alloc (.cells #[.int .i64 z, .int .i64 y] t' (0, 0))) fun e W' => e = .returned (.tuple #[]) ∧ ∃ v' F', Tn w0 W (Res.wr 240 g 3 v xs F) (Res.wr 240 g 3 v' (xs ++ [z, y]) F') [] W' := by
  subst hg
  refine (wPutN [z, y] W.heap.size c t' (0, 0) (hS.al _) (blk_new _ _) 2 rfl (by simp) (by simpa using hb)).mono ?_
  rintro e W' ⟨rfl, v', F', T⟩
  exact ⟨rfl, v', F', ((Tn.of hS 0 rfl).al _).turn T⟩
set_option maxHeartbeats 2000000 in
set_option maxRecDepth 100000 in
theorem wTextI {w0 W : World} {L : List Res} {g : Nat} {v : Value} {xs : List Int} {F : List Nat} (s : ByteArray) (hS : St w0 (Res.wr 240 g 3 v xs F :: L) W) (hb : xs.length + (encT s).length ≤ 1099511627776) :
    Calls Tryz.prog 178 #[.pointer (some ⟨g, 0, none⟩), .string s] W (Wrote w0 W 240 g 3 v xs F (xs ++ encT s)) := by
  rw [encT_len] at hb
  have HX := Lib.hid (show (xs ++ [(s.size : Int)]) ++ bytesN s s.size = xs ++ encT s by rw [List.append_assoc]; rfl)
  go_enter Tryz.func178, Tryz.ntmps178
  go_wp2_with fail
  refine (wPut1 (s.size : Int) _ _ _ hS rfl (by omega)).mono ?_
  rintro e w1 ⟨rfl, v1, F1, T1⟩
  go_wp2
  go_loopw [12] (fun i wr => ∃ (k : Nat) (v2 : Value) (F2 : List Nat), k ≤ s.size ∧ i = .int .i64 k ∧ Tn w0 W (Res.wr 240 g 3 v xs F) (Res.wr 240 g 3 v2 ((xs ++ [(s.size : Int)]) ++ bytesN s k) F2) [] wr) (fun i _ => s.size - (intOf i).toNat)
  case atStart => exact ⟨0, v1, F1, by omega, rfl, by simpa [bytesN] using T1⟩
  case round =>
    clear T1
    obtain ⟨k, v2, F2, hk, rfl, hT⟩ := hrel
    by_cases hlt : k < s.size
    rotate_left
    · obtain rfl : k = s.size := by omega
      rw [HX.out] at hT
      go_wp2
      go_end0
      exact ⟨rfl, v2, F2, hT⟩
    have hb2 : ((xs ++ [(s.size : Int)]) ++ bytesN s k).length ≤ 1099511627775 := by
      rw [List.length_append, List.length_append, bytesN_len]
      simp only [List.length_singleton]
      omega
    have hwb := wrap_byte s[k]
    have HN := Lib.hid (show ((xs ++ [(s.size : Int)]) ++ bytesN s k) ++ [((s[k]).toNat : Int)] = (xs ++ [(s.size : Int)]) ++ bytesN s (k + 1) by rw [bytesN_snoc, byte_at s k hlt, List.append_assoc])
    go_wp2_with fail
    refine (wPut1 ((s[k]).toNat : Int) _ _ _ (hS.turn 0 rfl hT) rfl (by omega)).mono ?_
    rintro e w2 ⟨rfl, v3, F3, T3⟩
    rw [HN.out] at T3
    go_wp2
    go_roundw
    case rel => exact ⟨k + 1, v3, F3, by omega, by go_num, hT.turn T3⟩
    case measure => simp [intOf]; omega
set_option maxHeartbeats 2000000 in
set_option maxRecDepth 100000 in
theorem wText3 {w0 W : World} {L : List Res} {g : Nat} {v : Value} {xs : List Int} {F : List Nat} (s : ByteArray) (hS : St w0 (Res.wr 141 g 3 v xs F :: L) W) (hb : xs.length + (encT s).length ≤ 1099511627776) :
    Calls Tryz.prog 102 #[.pointer (some ⟨g, 0, none⟩), .string s] W (Wrote w0 W 141 g 3 v xs F (xs ++ encT s)) := by
  rw [encT_len] at hb
  have HX := Lib.hid (show (xs ++ [(s.size : Int)]) ++ bytesN s s.size = xs ++ encT s by rw [List.append_assoc]; rfl)
  go_enter Tryz.func102, Tryz.ntmps102
  go_wp2_with fail
  refine (wPut3 (s.size : Int) hS (by omega)).mono ?_
  rintro e w1 ⟨rfl, v1, F1, T1⟩
  go_wp2
  go_loopw [4] (fun i wr => ∃ (k : Nat) (v2 : Value) (F2 : List Nat), k ≤ s.size ∧ i = .int .i64 k ∧ Tn w0 W (Res.wr 141 g 3 v xs F) (Res.wr 141 g 3 v2 ((xs ++ [(s.size : Int)]) ++ bytesN s k) F2) [] wr) (fun i _ => s.size - (intOf i).toNat)
  case atStart => exact ⟨0, v1, F1, by omega, rfl, by simpa [bytesN] using T1⟩
  case round =>
    clear T1
    obtain ⟨k, v2, F2, hk, rfl, hT⟩ := hrel
    by_cases hlt : k < s.size
    rotate_left
    · obtain rfl : k = s.size := by omega
      rw [HX.out] at hT
      go_wp2
      go_end0
      exact ⟨rfl, v2, F2, hT⟩
    have hb2 : ((xs ++ [(s.size : Int)]) ++ bytesN s k).length ≤ 1099511627775 := by
      rw [List.length_append, List.length_append, bytesN_len]
      simp only [List.length_singleton]
      omega
    have hwb := wrap_byte s[k]
    have HN := Lib.hid (show ((xs ++ [(s.size : Int)]) ++ bytesN s k) ++ [((s[k]).toNat : Int)] = (xs ++ [(s.size : Int)]) ++ bytesN s (k + 1) by rw [bytesN_snoc, byte_at s k hlt, List.append_assoc])
    go_wp2_with fail
    refine (wPut3 ((s[k]).toNat : Int) (hS.turn 0 rfl hT) (by omega)).mono ?_
    rintro e w2 ⟨rfl, v3, F3, T3⟩
    rw [HN.out] at T3
    go_wp2
    go_roundw
    case rel => exact ⟨k + 1, v3, F3, by omega, by go_num, hT.turn T3⟩
    case measure => simp [intOf]; omega
set_option maxHeartbeats 2000000 in
set_option maxRecDepth 100000 in
theorem wValueI {w0 W : World} {L : List Res} {g : Nat} {v : Value} {xs : List Int} {F : List Nat} (x : DValue) (hS : St w0 (Res.wr 240 g 3 v xs F :: L) W) (hb : xs.length + (encV x).length ≤ 1099511627776) :
    Calls Tryz.prog 174 #[.pointer (some ⟨g, 0, none⟩), .agg #[.int .i64 x.k, .int .i64 x.n, .string x.s]] W (Wrote w0 W 240 g 3 v xs F (xs ++ encV x)) := by
  have hl : (encV x).length = 2 + (encT x.s).length := by rw [encV_len, encT_len]; omega
  have HX := Lib.hid (show (xs ++ [x.k, x.n]) ++ encT x.s = xs ++ encV x by rw [List.append_assoc]; rfl)
  have S2 := hS.made (.cells #[.int .i64 x.k, .int .i64 x.n, .string x.s] 65 (0, 0))
  have S1 := S2.perm (List.Perm.swap _ _ _)
  go_enter Tryz.func174, Tryz.ntmps174
  go_wp2_with fail
  refine (wPut2 x.k x.n _ _ _ S1 (by simp) (by omega)).mono ?_
  rintro e w1 ⟨rfl, v1, F1, T1⟩
  have S3 := S1.turn 0 rfl T1
  have x3 := S3.cell 1 rfl
  have T2 := ((Tn.of hS 0 rfl).al (.cells #[.int .i64 x.k, .int .i64 x.n, .string x.s] 65 (0, 0))).turn T1
  go_wp2_with fail
  refine (wTextI x.s S3 (by rw [List.length_append]; simp; omega)).mono ?_
  rintro e w2 ⟨rfl, v2, F2, T3⟩
  rw [HX.out] at T3
  go_wp2
  go_end0
  exact ⟨rfl, v2, F2, T2.turn T3⟩
set_option maxHeartbeats 2000000 in
set_option maxRecDepth 100000 in
theorem wValue3 {w0 W : World} {L : List Res} {g : Nat} {v : Value} {xs : List Int} {F : List Nat} (x : DValue) (hS : St w0 (Res.wr 141 g 3 v xs F :: L) W) (hb : xs.length + (encV x).length ≤ 1099511627776) :
    Calls Tryz.prog 103 #[.pointer (some ⟨g, 0, none⟩), .agg #[.int .i64 x.k, .int .i64 x.n, .string x.s]] W (Wrote w0 W 141 g 3 v xs F (xs ++ encV x)) := by
  have hl : (encV x).length = 2 + (encT x.s).length := by rw [encV_len, encT_len]; omega
  have HX := Lib.hid (show (xs ++ [x.k] ++ [x.n]) ++ encT x.s = xs ++ encV x by simp [encV])
  have S2 := hS.made (.cells #[.int .i64 x.k, .int .i64 x.n, .string x.s] 65 (0, 0))
  have S1 := S2.perm (List.Perm.swap _ _ _)
  have x1 := S1.cell 1 rfl
  have T0 := (Tn.of hS 0 rfl).al (.cells #[.int .i64 x.k, .int .i64 x.n, .string x.s] 65 (0, 0))
  go_enter Tryz.func103, Tryz.ntmps103
  go_wp2_with fail
  refine (wPut3 x.k S1 (by omega)).mono ?_
  rintro e w1 ⟨rfl, v1, F1, T1⟩
  clear x1
  have S3 := S1.turn 0 rfl T1
  have x3 := S3.cell 1 rfl
  have T2 := T0.turn T1
  go_wp2_with fail
  refine (wPut3 x.n S3 (by rw [List.length_append]; simp; omega)).mono ?_
  rintro e w2 ⟨rfl, v2, F2, T3⟩
  clear x3
  have S4 := S3.turn 0 rfl T3
  have x4 := S4.cell 1 rfl
  have T4 := T2.turn T3
  go_wp2_with fail
  refine (wText3 x.s S4 (by rw [List.length_append, List.length_append]; simp; omega)).mono ?_
  rintro e w3 ⟨rfl, v3, F3, T5⟩
  rw [HX.out] at T5
  go_wp2
  go_end0
  exact ⟨rfl, v3, F3, T4.turn T5⟩
end Go.Proofs.YthinhlcfpaaldaaGreat.Dat
