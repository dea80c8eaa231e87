/- The laws' own texts of marks. -/
import Derived.Test.YteoibjacgnmnpaaMk
import Derived.Lib.ConvBytes
import Derived.Laws.BytesString
import Derived.Laws.Cells
namespace Go.Proofs.Yteoibjacgnmnpaa.Dat
open Go Go.RowKit Go.Proofs.Yteoibjacgnmnpaa.Mem
set_option linter.unusedVariables false
set_option linter.unusedSimpArgs false
def digs (k : Nat) (out : ByteArray) : ByteArray := if h : k = 0 then out else digs (k / 10) ((⟨#[48 + UInt8.ofNat (k % 10)]⟩ : ByteArray) ++ out)
decreasing_by omega
def mkText (k : Int) : ByteArray := if k ≤ 0 then (⟨#[109, 48]⟩ : ByteArray) else (⟨#[109]⟩ : ByteArray) ++ digs k.toNat ⟨#[]⟩
theorem digs_0 (out : ByteArray) : digs 0 out = out := by rw [digs]; simp
theorem digs_s {k : Nat} (h : 0 < k) (out : ByteArray) : digs k out = digs (k / 10) ((⟨#[48 + UInt8.ofNat (k % 10)]⟩ : ByteArray) ++ out) := by rw [digs, dif_neg (by omega)]
theorem wp_byteStr {P : Program} {ops : Array Oper} {rest : List Oper} {o : Oper} {a : Act} {Q : Exit → Act → World → Prop} {W : World} (hgd : o.guard = none) (src dst : TypeId) (x : Operand) (ho : o.op = .convert src dst x) (e : TypeId) (hs : P.underlying src = some (.slice e)) (he : P.underlying e = some (.int .u8)) (hd : P.underlying dst = some .string)
    (B c : Nat) (n : Int) (hx : a.eval x = .slice (some ⟨B, 0, none⟩) 1 c) (hc : W.cell? ⟨B, 0, none⟩ = some (.int .u8 n))
    (h : wpList P ops Q rest (a.put o.dst (.string (⟨#[UInt8.ofNat n.toNat]⟩ : ByteArray))) W) : wpList P ops Q (o :: rest) a W := by
  have hl : (loadCells ⟨B, 0, none⟩ 1).run P W = .ok ([n].map (Value.int .u8)).toArray W := by
    have := run_loadCells_list (P := P) W ⟨B, 0, none⟩ [.int .u8 n] (fun j v hj => by
      have := one_src hc j v hj
      have e2 : (⟨B, 0, none⟩ : Addr).add j = ⟨B, j, none⟩ := by unfold Addr.add; split <;> simp_all
      rw [e2]
      exact this)
    simpa using this
  have hr : (convert src dst (.slice (some ⟨B, 0, none⟩) 1 c)).run P W = .ok (.string (⟨#[UInt8.ofNat n.toNat]⟩ : ByteArray)) W := by
    rw [run_convert_bytes_string W src dst e _ 1 c hs he hd, run_bytesToString W _ 1 c [n] hl]
    rfl
  have hrun : (execOp a.eval o).run P W = .ok (.value (.string (⟨#[UInt8.ofNat n.toNat]⟩ : ByteArray))) W := by simp [execOp, ho, hx, hr]
  refine wpList_plain hgd fun K hK => ?_
  unfold Oper.wp
  rw [hrun]
  exact hK _ _ h
set_option maxHeartbeats 1000000 in
set_option maxRecDepth 100000 in
theorem markText (k : Int) (w : World) (h1 : k ≤ 4611686018427387904) (h0 : 0 ≤ k) : Calls Try.prog 112 #[.int .i64 k] w fun e w' => e = .returned (.string (mkText k)) ∧ Below w.heap.size w w' := by
  by_cases hk : k ≤ 0
  · have e : mkText k = (⟨#[109, 48]⟩ : ByteArray) := by unfold mkText; rw [if_pos hk]
    rw [e]
    clear e
    go_enter Try.func112, Try.ntmps112
    go_wp2
    go_ret
    exact ⟨rfl, (by repeat (first | exact Below.refl _ _ | assumption | (refine bl_set ?_ (by dsimp only; omega) _) | refine bl_alloc ?_ _ | refine bl_drewN ?_ _ | refine bl_drew ?_ | refine bl_step ?_ (by assumption)))⟩
  obtain ⟨R, hR⟩ : ∃ R, digs k.toNat ⟨#[]⟩ = R := ⟨_, rfl⟩
  have e : mkText k = (⟨#[109]⟩ : ByteArray) ++ R := by unfold mkText; rw [if_neg hk, hR]
  rw [e]
  have HR := Lib.hid hR
  clear e hR
  have hk0 : 0 < k := by omega
  go_enter Try.func112, Try.ntmps112
  go_wp2
  go_loopw [0, 3] (fun u v wr => ∃ (m : Nat) (out : ByteArray), u = .int .i64 m ∧ (m : Int) ≤ k ∧ v = .string out ∧ (out.size : Int) + m ≤ k ∧ Hid (digs m out = R) ∧ Below w.heap.size w wr) (fun u _ _ => (intOf u).toNat)
  case atStart => exact ⟨k.toNat, ⟨#[]⟩, by rw [Int.toNat_of_nonneg h0], by omega, rfl, by rw [show (⟨#[]⟩ : ByteArray).size = 0 from rfl]; omega, HR, Below.refl _ _⟩
  case round =>
    obtain ⟨m, out, rfl, hmk, rfl, hsz, hd, hb⟩ := hrel
    by_cases hm : 0 < m
    · have HD := Lib.hid ((digs_s hm out).symm.trans hd.out)
      have hm' : 0 < (m : Int) := by omega
      have hm2 : (m : Int) ≤ 4611686018427387904 := by omega
      clear hd
      have hs1 : (⟨#[48 + UInt8.ofNat (m % 10)]⟩ : ByteArray).size = 1 := rfl
      have hs2 : (out.size : Int) ≤ 4611686018427387904 := by omega
      go_wp2_with (refine wp_byteStr rfl _ _ _ rfl 5 Try.underlying22 Try.underlying5 Try.underlying9 _ _ _ rfl (blk_cell (blk_new _ _) 0) ?_)
      go_roundw
      case rel => exact ⟨m / 10, _, by simp, by omega, rfl, by rw [ByteArray.size_append, hs1]; omega, HD, (by repeat (first | exact Below.refl _ _ | assumption | (refine bl_set ?_ (by dsimp only; omega) _) | refine bl_alloc ?_ _ | refine bl_drewN ?_ _ | refine bl_drew ?_ | refine bl_step ?_ (by assumption)))⟩
      case measure => simp [intOf]; omega
    · obtain rfl : m = 0 := by omega
      have e : out = R := by have := hd.out; rwa [digs_0] at this
      subst e
      have hs2 : (out.size : Int) ≤ 4611686018427387904 := by omega
      go_wp2
      go_ret
      exact ⟨rfl, hb⟩
/-! ### Marks of a row -/
def mkL {α : Type} (mk : Int → α → α) (ct : α → Nat) : Int → List α → List α
  | _, [] => []
  | k, x :: l => mk k x :: mkL mk ct (k + ct x) l
def ctL {α : Type} (ct : α → Nat) (l : List α) : Nat := (l.map ct).sum
theorem mkL_len {α : Type} (mk : Int → α → α) (ct : α → Nat) : ∀ (l : List α) (k : Int), (mkL mk ct k l).length = l.length
  | [], _ => rfl
  | x :: l, k => by simp [mkL, mkL_len mk ct l]
theorem mkL_get {α : Type} (mk : Int → α → α) (ct : α → Nat) : ∀ (l : List α) (k : Int) (j : Nat) (x : α), l[j]? = some x → (mkL mk ct k l)[j]? = some (mk (k + ctL ct (l.take j)) x)
  | [], _, _, _, h => by simp at h
  | y :: l, k, 0, x, h => by
    have e : y = x := by simpa using h
    subst e
    simp [mkL, ctL]
  | y :: l, k, j + 1, x, h => by
    have := mkL_get mk ct l (k + ct y) j x (by simpa using h)
    simp only [mkL, List.getElem?_cons_succ, this]
    congr 2
    simp [ctL]
    omega
theorem ctL_snoc {α : Type} (ct : α → Nat) (l : List α) (k : Nat) (x : α) (hx : l[k]? = some x) : ctL ct (l.take (k + 1)) = ctL ct (l.take k) + ct x := by
  have hk : k < l.length := (List.getElem?_eq_some_iff.1 hx).1
  have e : l[k] = x := (List.getElem?_eq_some_iff.1 hx).2
  unfold ctL
  rw [List.take_succ_eq_append_getElem hk, List.map_append, List.sum_append, e]
  simp
theorem ctL_le {α : Type} (ct : α → Nat) (l : List α) (k : Nat) : ctL ct (l.take k) ≤ ctL ct l := by
  unfold ctL
  have : (l.map ct).sum = ((l.take k).map ct).sum + ((l.drop k).map ct).sum := by
    rw [← List.sum_append, ← List.map_append, List.take_append_drop]
  omega
theorem ctL_mem {α : Type} (ct : α → Nat) (l : List α) (k : Nat) (x : α) (hx : l[k]? = some x) : ctL ct (l.take k) + ct x ≤ ctL ct l := by
  have := ctL_snoc ct l k x hx
  have := ctL_le ct l (k + 1)
  omega
/-- A row marked up to a place. -/
def upto {α : Type} (mk : Int → α → α) (ct : α → Nat) (k : Int) (l : List α) (j : Nat) : List α := (mkL mk ct k l).take j ++ l.drop j
theorem upto_0 {α : Type} (mk : Int → α → α) (ct : α → Nat) (k : Int) (l : List α) : upto mk ct k l 0 = l := by simp [upto]
theorem upto_all {α : Type} (mk : Int → α → α) (ct : α → Nat) (k : Int) (l : List α) : upto mk ct k l l.length = mkL mk ct k l := by
  unfold upto
  rw [List.drop_length, List.append_nil, List.take_of_length_le (by rw [mkL_len]; exact Nat.le_refl _)]
theorem upto_len {α : Type} (mk : Int → α → α) (ct : α → Nat) (k : Int) (l : List α) (j : Nat) : (upto mk ct k l j).length = l.length := by
  have := mkL_len mk ct l k
  simp [upto]
  omega
theorem upto_get {α : Type} (mk : Int → α → α) (ct : α → Nat) (k : Int) (l : List α) (j : Nat) (x : α) (hx : l[j]? = some x) : (upto mk ct k l j)[j]? = some x := by
  have hj : j < l.length := (List.getElem?_eq_some_iff.1 hx).1
  have h1 := mkL_len mk ct l k
  unfold upto
  rw [List.getElem?_append_right (by rw [List.length_take]; omega), List.length_take, Nat.min_eq_left (by omega), Nat.sub_self, List.getElem?_drop, Nat.add_zero]
  exact hx
theorem upto_set {α : Type} (mk : Int → α → α) (ct : α → Nat) (k : Int) (l : List α) (j : Nat) (x : α) (hx : l[j]? = some x) : (upto mk ct k l j).set j (mk (k + ctL ct (l.take j)) x) = upto mk ct k l (j + 1) :=
  set_upto _ _ j _ (mkL_len mk ct l k) (mkL_get mk ct l k j x hx)
end Go.Proofs.Yteoibjacgnmnpaa.Dat
