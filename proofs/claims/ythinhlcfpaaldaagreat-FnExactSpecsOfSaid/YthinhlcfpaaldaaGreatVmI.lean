/- Whether a state is as it must be, in the program: records, texts, frames, heights. -/
import Derived.Test.YthinhlcfpaaldaaGreatVmP
import Derived.Test.YthinhlcfpaaldaaGreatM1
import Derived.Test.YthinhlcfpaaldaaGreatK3
import Derived.Test.YthinhlcfpaaldaaGreatK2
import Derived.Test.YthinhlcfpaaldaaGreatK4
namespace Go.Proofs.YthinhlcfpaaldaaGreat.Mem
open Go Go.RowKit
/-- An empty row, made. -/
theorem St.emptyV {w W : World} {L : List Res} {α : Type} (d : Knd α) (e : Nat) (h : St w L W) (g : Nat) (hg : W.heap.size = g) : St w (Res.own d e (.slice (some ⟨g, 0, none⟩) 0 0) [] [g] :: L) (W.alloc (.cells #[] e (0, 0))) := by
  subst hg
  refine h.new (r := Res.own d e (.slice (some ⟨W.heap.size, 0, none⟩) 0 0) [] [W.heap.size]) ((Below.refl _ _).alloc (Nat.le_refl _) _) ?_ (by simp [Res.own]) (by simp [Res.own])
  exact ⟨[], [], ⟨by simp, .inr ⟨W.heap.size, 0, #[], rfl, Nat.zero_le _, blk_new W _, Nat.le_refl _, by unfold maxLen; omega, by simp, by simp⟩⟩, ⟨by simp, rfl, fun j p Fj hp => by simp at hp⟩, by simp [Value.ownBlock]⟩
end Go.Proofs.YthinhlcfpaaldaaGreat.Mem
namespace Go.Proofs.YthinhlcfpaaldaaGreat.Dat
open Go Go.RowKit Go.Proofs.YthinhlcfpaaldaaGreat.Mem
set_option linter.unusedVariables false
set_option linter.unusedSimpArgs false
theorem recCl (A : Option Addr) (n c : Nat) (w : World) : Calls Tryz.prog 324 #[.agg #[.slice A n c]] w fun e w' => e = .returned (.bool (decide (6 < n))) ∧ Below w.heap.size w w' := by
  have hd : decide (6 < n) = decide ((6 : Int) < (n : Int)) := by rw [Bool.eq_iff_iff]; simp; omega
  rw [hd]
  go_enter Tryz.func324, Tryz.ntmps324
  go_wp2
  go_ret
  exact ⟨rfl, bl9⟩
set_option maxHeartbeats 1000000 in
theorem idxRc (A : Option Addr) (c : Nat) (l : List DRec)  (p : DRec → Bool) (w : World) (hr : (kRec).Row w A l.length l) (hl : l.length ≤ 1048576) (hp : Asks Tryz.prog kRec agg1 324 [] p w l) :
    Calls Tryz.prog 351 #[.slice A l.length c, .func (.func 324) #[] #[]] w (IsIdx p l w) := by
  go_enter Tryz.func351, Tryz.ntmps351
  go_wp2
  go_loopw [8] (fun i wr => ∃ k : Nat, k ≤ l.length ∧ i = .int .i64 k ∧ Hid (∀ j x, l[j]? = some x → j < k → p x = false) ∧ Below w.heap.size w wr) (fun i _ => l.length - (intOf i).toNat)
  case atStart => exact ⟨0, by omega, rfl, (fun j x _ h => by omega), Below.refl _ _⟩
  case round =>
    obtain ⟨k, hk, rfl, ho, hb⟩ := hrel
    by_cases hlt : k < l.length
    · obtain ⟨x, hx⟩ := get_exU l k hlt
      obtain ⟨ad, A0, c0, rfl, q0, hl0, hr0⟩ := kRec_at (hr.below hb) k x hx; rw [Nat.mul_one] at q0; have C := hp x (List.mem_of_getElem? hx) wr hb [.slice A0 x.fields.length c0] (kRec_K.2 ⟨A0, c0, rfl, hl0, hr0⟩); simp only [agg1] at C
      cases hq : p x
      · have HN := Lib.hid (not_step ho.out hx hq)
        rw [hq] at C
        clear hx hq
        go_wp2_with fail
        refine C.mono ?_
        rintro e w' ⟨rfl, hb2⟩
        go_wp2
        go_roundw
        case rel => exact ⟨k + 1, by omega, by go_num, HN, bl9⟩
        case measure => simp [intOf]; omega
      · have HE := Lib.hid (any_yes (p := p) hx hq)
        rw [hq] at C
        clear hx hq
        go_wp2_with fail
        refine C.mono ?_
        rintro e w' ⟨rfl, hb2⟩
        go_wp2
        go_ret
        exact ⟨_, rfl, by rw [HE.out]; simp, bl9⟩
    · obtain rfl : k = l.length := by omega
      have HE := Lib.hid (any_no (p := p) (fun j x h h2 => ho.out j x h h2))
      go_wp2
      go_ret
      exact ⟨_, rfl, by rw [HE.out]; simp, hb⟩
theorem hasRc (A : Option Addr) (c : Nat) (l : List DRec)  (p : DRec → Bool) (w : World) (hr : (kRec).Row w A l.length l) (hl : l.length ≤ 1048576) (hp : Asks Tryz.prog kRec agg1 324 [] p w l) :
    Calls Tryz.prog 323 #[.slice A l.length c, .func (.func 324) #[] #[]] w fun e w' => e = .returned (.bool (l.any p)) ∧ Below w.heap.size w w' := by
  go_enter Tryz.func323, Tryz.ntmps323
  go_wp2_with fail
  refine (idxRc A c l p _ hr hl hp).mono ?_
  rintro e w' ⟨r, rfl, he, hb⟩
  have HE := Lib.hid he
  clear he
  go_wp2
  go_ret
  exact ⟨ret_bool HE.out, bl9⟩
theorem recsI (A : Option Addr) (c : Nat) (h : List DRec) (w : World) (hr : kRec.Row w A h.length h) (hm : h.length ≤ 1048576) : Calls Tryz.prog 243 #[.slice A h.length c] w fun e w' => e = .returned (.bool (recsB h)) ∧ Below w.heap.size w w' := by
  by_cases h0 : (h.length : Int) ≤ 120
  rotate_left
  · have E := Lib.hid (show recsB h = false by unfold recsB; rw [decide_eq_false h0, Bool.false_and])
    go_enter Tryz.func243, Tryz.ntmps243
    go_wp2
    go_ret
    exact ⟨ret_bool E.out.symm, bl9⟩
  have E := Lib.hid (show recsB h = !(h.any (fun r => decide (6 < r.fields.length))) by unfold recsB; rw [decide_eq_true h0, Bool.true_and])
  go_enter Tryz.func243, Tryz.ntmps243
  go_wp2_with fail
  refine (hasRc A c h (fun r => decide (6 < r.fields.length)) _ (by first | exact hr | exact hr.below bl9) hm (fun x hx W hb cs hK => by
    obtain ⟨A0, c0, rfl, hl0, hr0⟩ := kRec_K.1 hK
    exact recCl A0 x.fields.length c0 W)).mono ?_
  rintro e w' ⟨rfl, hb⟩
  go_wp2
  go_ret
  exact ⟨ret_bool E.out.symm, bl9⟩
theorem outCl (s : ByteArray) (w : World) (hm : s.size ≤ maxLen) : Calls Tryz.prog 245 #[.string s] w fun e w' => e = .returned (.bool (!textB s)) ∧ Below w.heap.size w w' := by
  go_enter Tryz.func245, Tryz.ntmps245
  go_wp2_with (go_at_call 246; refine (textI _ _ hm).mono ?_; rintro e w' ⟨rfl, rfl⟩)
  go_ret
  exact ⟨rfl, bl9⟩
set_option maxHeartbeats 1000000 in
theorem idxSo (A : Option Addr) (c : Nat) (l : List ByteArray)  (p : ByteArray → Bool) (w : World) (hr : (Knd.str).Row w A l.length l) (hl : l.length ≤ 1048576) (hp : Asks Tryz.prog Knd.str one1 245 [] p w l) :
    Calls Tryz.prog 325 #[.slice A l.length c, .func (.func 245) #[] #[]] w (IsIdx p l w) := by
  go_enter Tryz.func325, Tryz.ntmps325
  go_wp2
  go_loopw [8] (fun i wr => ∃ k : Nat, k ≤ l.length ∧ i = .int .i64 k ∧ Hid (∀ j x, l[j]? = some x → j < k → p x = false) ∧ Below w.heap.size w wr) (fun i _ => l.length - (intOf i).toNat)
  case atStart => exact ⟨0, by omega, rfl, (fun j x _ h => by omega), Below.refl _ _⟩
  case round =>
    obtain ⟨k, hk, rfl, ho, hb⟩ := hrel
    by_cases hlt : k < l.length
    · obtain ⟨x, hx⟩ := get_exU l k hlt
      obtain ⟨ad, rfl, q0⟩ := (hr.below hb).one k x hx; have C := hp x (List.mem_of_getElem? hx) wr hb [.string x] rfl; simp only [one1, List.headD] at C
      cases hq : p x
      · have HN := Lib.hid (not_step ho.out hx hq)
        rw [hq] at C
        clear hx hq
        go_wp2_with fail
        refine C.mono ?_
        rintro e w' ⟨rfl, hb2⟩
        go_wp2
        go_roundw
        case rel => exact ⟨k + 1, by omega, by go_num, HN, bl9⟩
        case measure => simp [intOf]; omega
      · have HE := Lib.hid (any_yes (p := p) hx hq)
        rw [hq] at C
        clear hx hq
        go_wp2_with fail
        refine C.mono ?_
        rintro e w' ⟨rfl, hb2⟩
        go_wp2
        go_ret
        exact ⟨_, rfl, by rw [HE.out]; simp, bl9⟩
    · obtain rfl : k = l.length := by omega
      have HE := Lib.hid (any_no (p := p) (fun j x h h2 => ho.out j x h h2))
      go_wp2
      go_ret
      exact ⟨_, rfl, by rw [HE.out]; simp, hb⟩
theorem hasSo (A : Option Addr) (c : Nat) (l : List ByteArray)  (p : ByteArray → Bool) (w : World) (hr : (Knd.str).Row w A l.length l) (hl : l.length ≤ 1048576) (hp : Asks Tryz.prog Knd.str one1 245 [] p w l) :
    Calls Tryz.prog 244 #[.slice A l.length c, .func (.func 245) #[] #[]] w fun e w' => e = .returned (.bool (l.any p)) ∧ Below w.heap.size w w' := by
  go_enter Tryz.func244, Tryz.ntmps244
  go_wp2_with fail
  refine (idxSo A c l p _ hr hl hp).mono ?_
  rintro e w' ⟨r, rfl, he, hb⟩
  have HE := Lib.hid he
  clear he
  go_wp2
  go_ret
  exact ⟨ret_bool HE.out, bl9⟩
/-! ### Heights of all functions -/
def kHgh : Knd (List Int) := Knd.slice 3 (Knd.int .i64)
def highsL (l : List DFunc) : List (List Int) := l.map (fun y => depthsL l y.code)
theorem highsL_len (l : List DFunc) : (highsL l).length = l.length := by simp [highsL]
theorem highsL_at {l : List DFunc} {k : Nat} {y : DFunc} (hy : l[k]? = some y) : (highsL l)[k]? = some (depthsL l y.code) := by
  unfold highsL
  rw [List.getElem?_map, hy]
  rfl
theorem kHgh_at {w : World} {A : Option Addr} {n : Nat} {xs : List (List Int)} (h : kHgh.Row w A n xs) (i : Nat) (x : List Int) (hx : xs[i]? = some x) : ∃ (ad : Addr) (A1 : Option Addr) (c1 : Nat), A = some ad ∧ w.cell? (ad.add i) = some (.slice A1 x.length c1) ∧ x.length ≤ c1 ∧ (Knd.int .i64).Row w A1 x.length x := by
  obtain ⟨ad, c, e, hK, hc⟩ := h.get i x hx
  obtain ⟨A1, c1, rfl, hl, hr⟩ := hK
  have h0 := hc 0 _ rfl
  rw [show i * kHgh.sz + 0 = i from Nat.mul_one i] at h0
  exact ⟨ad, A1, c1, e, h0, hl, hr⟩
theorem infoInts : (Tryz.prog.info? 81).map (fun i => (i.zero, i.size, i.bytes)) = some (some (.slice none 0 0), 1, 24) := by kernel_rfl
theorem take_snocV {α : Type} {l : List α} {k : Nat} {x : α} (h : l[k]? = some x) : l.take (k + 1) = l.take k ++ [x] := by
  rw [List.take_add_one, h]
  rfl
set_option maxHeartbeats 2000000 in
set_option maxRecDepth 100000 in
theorem heightsI (A B : Option Addr) (c d : Nat) (t : List ByteArray) (l : List DFunc) (w : World) (hr : kFunc.Row w B l.length l) (hfit : ModFit t l) :
    Calls Tryz.prog 83 #[.agg #[.slice A t.length c, .slice B l.length d]] w (NewRow kHgh 81 (highsL l) w) := by
  have hm := hfit.n12
  have hHl := highsL_len l
  have hS := ((St.start w).made (.cells #[.slice A t.length c, .slice B l.length d] 36 (0, 0))).emptyV kHgh 81 (w.heap.size + 1) (by simp)
  go_enter Tryz.func83, Tryz.ntmps83
  go_wp2
  go_loopw [3, 9] (fun v i wr => ∃ (k : Nat) (F : List Nat), k ≤ l.length ∧ i = .int .i64 k ∧ St w [Res.own kHgh 81 v ((highsL l).take k) F, Res.box w.heap.size (.cells #[.slice A t.length c, .slice B l.length d] 36 (0, 0))] wr) (fun _ i _ => l.length - (intOf i).toNat)
  case atStart => exact ⟨0, _, by omega, rfl, hS⟩
  case round =>
    clear hS
    obtain ⟨k, F, hk, rfl, hS⟩ := hrel
    by_cases hlt : k < l.length
    rotate_left
    · obtain rfl : k = l.length := by omega
      rw [List.take_of_length_le (by omega)] at hS
      go_wp2
      go_ret
      exact hS.outRow 0 rfl
    obtain ⟨y, hy⟩ := get_exU l k hlt
    have HT := Lib.hid (take_snocV (highsL_at hy))
    obtain ⟨Av, cv, rfl, _, _⟩ := hS.row 0 rfl
    have hlk : ((highsL l).take k).length = k := by rw [List.length_take]; omega
    rw [hlk] at hS ⊢
    have HLK := Lib.hid hlk
    have x1 := hS.cell 1 rfl
    go_wp2_with fail
    refine (depthsI A B c d t l k y _ (hr.below hS.bel) hfit hy).mono ?_
    intro e w1 hn
    obtain ⟨v1, F1, rfl, hS1⟩ := hS.newRow hn
    obtain ⟨A1, c1, rfl, hc1, hr1⟩ := hS1.row 0 rfl
    have hS7 := hS1.front 1 rfl
    clear hS hn hS1 x1 hlk
    go_wp2_with (at_builtin; refine Knd.wp_appE kHgh rfl _ _ _ rfl 81 Tryz.underlying124 (.slice none 0 0) 24 infoInts rfl (by decide) rfl ((hS7.al _).own_ 0 rfl) _ _ _ _ (depthsL l y.code) (blkAt _ _ (by simp)) rfl ⟨_, rfl, (hS7.al _).own_ 1 rfl⟩ (hS7.nodup2) (by (try rw [HLK.out]); unfold maxLen; omega) (by (try rw [HLK.out]); omega) ?_; rintro gq cq wq Fq hO hB hnd hF; have hS8 := (hS7.al _).upd2 (r' := Res.own kHgh 81 _ _ Fq) hB hO hnd hF; clear hO hB hF hnd hS7)
    go_roundw
    case rel => exact ⟨k + 1, Fq, by omega, by go_num, by rw [HT.out]; rw [HLK.out] at hS8; exact hS8⟩
    case measure => simp [intOf]; omega
/-! ### All values of a state -/
set_option maxHeartbeats 1000000 in
theorem okCl {w0 W : World} {L : List Res} (hS : St w0 L W) (i : Nat) {g1 : Nat} {b : Bool} (hi : L[i]? = some (Res.box g1 (.cells #[.bool b] 4 (0, 0)))) (g2 g3 : Nat) (B H : Option Addr) (d c nl nh : Nat) (q2 : W.cell? ⟨g2, 1, none⟩ = some (.slice B nl d)) (q3 : W.cell? ⟨g3, 1, none⟩ = some (.slice H nh c)) (x : DValue) (hs : x.s.size ≤ maxLen) (hl : nl ≤ 1048576) (hh : nh ≤ 1048576) :
    Calls Tryz.prog 248 #[.agg #[.int .i64 x.k, .int .i64 x.n, .string x.s], .pointer (some ⟨g1, 0, none⟩), .pointer (some ⟨g2, 0, none⟩), .pointer (some ⟨g3, 0, none⟩)] W fun e w' => e = .returned (.tuple #[]) ∧ St w0 (L.set i (Res.box g1 (.cells #[.bool (b && valB nl nh x)] 4 (0, 0)))) w' := by
  have hS0 := hS.made (.cells #[.int .i64 x.k, .int .i64 x.n, .string x.s] 65 (0, 0))
  have b2 := kept (bl_alloc (Below.refl _ _) (.cells #[.int .i64 x.k, .int .i64 x.n, .string x.s] 65 (0, 0))) q2
  have b3 := kept (bl_alloc (Below.refl _ _) (.cells #[.int .i64 x.k, .int .i64 x.n, .string x.s] 65 (0, 0))) q3
  have hi' : (Res.box W.heap.size (.cells #[.int .i64 x.k, .int .i64 x.n, .string x.s] 65 (0, 0)) :: L)[i + 1]? = some (Res.box g1 (.cells #[.bool b] 4 (0, 0))) := by simpa using hi
  have x1 := hS0.cell (i + 1) hi' 0
  have f1 := hS0.free (i + 1) hi' 0
  have z1 := hS0.blt (i + 1) hi'
  cases b
  · have hS9 := (hS0.set (i + 1) hi' 0 (.bool false)).drop
    clear q2 q3
    have HS := Lib.hid hS9
    clear hS9
    go_enter Tryz.func248, Tryz.ntmps248
    go_wp2
    go_end0
    exact ⟨rfl, HS.out⟩
  · go_enter Tryz.func248, Tryz.ntmps248
    go_wp2_with fail
    refine (valI nl nh x _ hs (by omega) (by omega) (by omega) (by omega)).mono ?_
    rintro e w' ⟨rfl, hb⟩
    have hS1 := hS0.step hb
    clear x1 f1 z1 b2 b3 q2 q3
    have x1 := hS1.cell (i + 1) hi' 0
    have f1 := hS1.free (i + 1) hi' 0
    have z1 := hS1.blt (i + 1) hi'
    have HS := Lib.hid ((hS1.set (i + 1) hi' 0 (.bool (valB nl nh x))).drop)
    go_wp2
    go_end0
    exact ⟨rfl, by rw [Bool.true_and]; exact HS.out⟩
end Go.Proofs.YthinhlcfpaaldaaGreat.Dat
