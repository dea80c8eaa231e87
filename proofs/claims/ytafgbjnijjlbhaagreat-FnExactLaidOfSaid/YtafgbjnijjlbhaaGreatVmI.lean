/- Whether a state is as it must be, in the program: records, texts, frames, heights. -/
import Derived.Test.YtafgbjnijjlbhaaGreatVmP
import Derived.Test.YtafgbjnijjlbhaaGreatM1
import Derived.Test.YtafgbjnijjlbhaaGreatK3
import Derived.Test.YtafgbjnijjlbhaaGreatK2
import Derived.Test.YtafgbjnijjlbhaaGreatK4
namespace Go.Proofs.YtafgbjnijjlbhaaGreat.Mem
open Go Go.RowKit
/-- An empty row, made. -/
theorem St.emptyV {w W : World} {L : List Res} {α : Type} (d : Knd α) (e : Nat) (h : St w L W) (g : Nat) (hg : W.heap.size = g) : St w (Res.own d e (.slice (some ⟨g, 0, none⟩) 0 0) [] [g] :: L) (W.alloc (.cells #[] e (0, 0))) := by
  subst hg
  refine h.new (r := Res.own d e (.slice (some ⟨W.heap.size, 0, none⟩) 0 0) [] [W.heap.size]) ((Below.refl _ _).alloc (Nat.le_refl _) _) ?_ (by simp [Res.own]) (by simp [Res.own])
  exact ⟨[], [], ⟨by simp, .inr ⟨W.heap.size, 0, #[], rfl, Nat.zero_le _, blk_new W _, Nat.le_refl _, by unfold maxLen; omega, by simp, by simp⟩⟩, ⟨by simp, rfl, fun j p Fj hp => by simp at hp⟩, by simp [Value.ownBlock]⟩
end Go.Proofs.YtafgbjnijjlbhaaGreat.Mem
namespace Go.Proofs.YtafgbjnijjlbhaaGreat.Dat
open Go Go.RowKit Go.Proofs.YtafgbjnijjlbhaaGreat.Mem
set_option linter.unusedVariables false
set_option linter.unusedSimpArgs false
/-! ### Heights of all functions -/
def kHgh : Knd (List Int) := Knd.slice 3 (Knd.int .i64)
def highsL (l : List DFunc) : List (List Int) := l.map (fun y => depthsL l y.code)
theorem highsL_len (l : List DFunc) : (highsL l).length = l.length := by simp [highsL]
theorem highsL_at {l : List DFunc} {k : Nat} {y : DFunc} (hy : l[k]? = some y) : (highsL l)[k]? = some (depthsL l y.code) := by
  unfold highsL
  rw [List.getElem?_map, hy]
  rfl
theorem kHgh_at {w : World} {A : Option Addr} {n : Nat} {xs : List (List Int)} (h : kHgh.Row w A n xs) (i : Nat) (x : List Int) (hx : xs[i]? = some x) : ∃ (ad : Addr) (A1 : Option Addr) (c1 : Nat), A = some ad ∧ w.cell? (ad.add i) = some (.slice A1 x.length c1) ∧ x.length ≤ c1 ∧ (Knd.int .i64).Row w A1 x.length x := by
  obtain ⟨ad, c, e, hK, hc⟩ := h.get i x hx
  obtain ⟨A1, c1, rfl, hl, hr⟩ := hK
  have h0 := hc 0 _ rfl
  rw [show i * kHgh.sz + 0 = i from Nat.mul_one i] at h0
  exact ⟨ad, A1, c1, e, h0, hl, hr⟩
theorem infoInts : (Tryz.prog.info? 45).map (fun i => (i.zero, i.size, i.bytes)) = some (some (.slice none 0 0), 1, 24) := by kernel_rfl
theorem take_snocV {α : Type} {l : List α} {k : Nat} {x : α} (h : l[k]? = some x) : l.take (k + 1) = l.take k ++ [x] := by
  rw [List.take_add_one, h]
  rfl
set_option maxHeartbeats 2000000 in
set_option maxRecDepth 100000 in
theorem heightsI (A B : Option Addr) (c d : Nat) (t : List ByteArray) (l : List DFunc) (w : World) (hr : kFunc.Row w B l.length l) (hfit : ModFit t l) :
    Calls Tryz.prog 62 #[.agg #[.slice A t.length c, .slice B l.length d]] w (NewRow kHgh 45 (highsL l) w) := by
  have hm := hfit.n12
  have hHl := highsL_len l
  have hS := ((St.start w).made (.cells #[.slice A t.length c, .slice B l.length d] 35 (0, 0))).emptyV kHgh 45 (w.heap.size + 1) (by simp)
  go_enter Tryz.func62, Tryz.ntmps62
  go_wp2
  go_loopw [3, 9] (fun v i wr => ∃ (k : Nat) (F : List Nat), k ≤ l.length ∧ i = .int .i64 k ∧ St w [Res.own kHgh 45 v ((highsL l).take k) F, Res.box w.heap.size (.cells #[.slice A t.length c, .slice B l.length d] 35 (0, 0))] wr) (fun _ i _ => l.length - (intOf i).toNat)
  case atStart => exact ⟨0, _, by omega, rfl, hS⟩
  case round =>
    clear hS
    obtain ⟨k, F, hk, rfl, hS⟩ := hrel
    by_cases hlt : k < l.length
    rotate_left
    · obtain rfl : k = l.length := by omega
      rw [List.take_of_length_le (by omega)] at hS
      go_wp2
      go_ret
      exact hS.outRow 0 rfl
    obtain ⟨y, hy⟩ := get_exU l k hlt
    have HT := Lib.hid (take_snocV (highsL_at hy))
    obtain ⟨Av, cv, rfl, _, _⟩ := hS.row 0 rfl
    have hlk : ((highsL l).take k).length = k := by rw [List.length_take]; omega
    rw [hlk] at hS ⊢
    have HLK := Lib.hid hlk
    have x1 := hS.cell 1 rfl
    go_wp2_with fail
    refine (depthsI A B c d t l k y _ (hr.below hS.bel) hfit hy).mono ?_
    intro e w1 hn
    obtain ⟨v1, F1, rfl, hS1⟩ := hS.newRow hn
    obtain ⟨A1, c1, rfl, hc1, hr1⟩ := hS1.row 0 rfl
    have hS7 := hS1.front 1 rfl
    clear hS hn hS1 x1 hlk
    go_wp2_with (at_builtin; refine Knd.wp_appE kHgh rfl _ _ _ rfl 45 Tryz.underlying100 (.slice none 0 0) 24 infoInts rfl (by decide) rfl ((hS7.al _).own_ 0 rfl) _ _ _ _ (depthsL l y.code) (blkAt _ _ (by simp)) rfl ⟨_, rfl, (hS7.al _).own_ 1 rfl⟩ (hS7.nodup2) (by (try rw [HLK.out]); unfold maxLen; omega) (by (try rw [HLK.out]); omega) ?_; rintro gq cq wq Fq hO hB hnd hF; have hS8 := (hS7.al _).upd2 (r' := Res.own kHgh 45 _ _ Fq) hB hO hnd hF; clear hO hB hF hnd hS7)
    go_roundw
    case rel => exact ⟨k + 1, Fq, by omega, by go_num, by rw [HT.out]; rw [HLK.out] at hS8; exact hS8⟩
    case measure => simp [intOf]; omega
/-! ### All values of a state -/
end Go.Proofs.YtafgbjnijjlbhaaGreat.Dat
