/- joined; InsText, SpecText, ValueText: in the program and in the reference. -/
import Derived.Test.YtpjdecneeakkeaaDoorItoa
import Derived.Test.YtpjdecneeakkeaaDoorK2
import Derived.LaidLaws
import Derived.OpenShut
import Derived.ChangeArms
namespace Go.Proofs.YtpjdecneeakkeaaDoor.Dat
open Go Go.RowKit Go.Proofs.YtpjdecneeakkeaaDoor.Mem
set_option linter.unusedVariables false
set_option linter.unusedSimpArgs false
/-! ### The words -/
def wordL : List (List UInt8) := [[105, 110, 116], [98, 111, 111, 108], [116, 101, 120, 116], [110, 105, 108], [102, 117, 110], [108, 111, 97, 100], [115, 116, 111, 114, 101], [100, 117, 112], [100, 114, 111, 112], [115, 119, 97, 112], [97, 100, 100], [115, 117, 98], [109, 117, 108], [108, 101, 115, 115], [115, 97, 109, 101], [110, 111, 116], [106, 117, 109, 112], [105, 102], [105, 102, 110, 111, 116], [110, 101, 119], [103, 101, 116], [112, 117, 116], [99, 97, 108, 108], [105, 110, 118, 111, 107, 101], [114, 101, 116, 117, 114, 110], [112, 114, 105, 110, 116]]
/-- The program's words lie as they were laid. -/
def Words (w : World) : Prop := w.var? Tryd.prog "loop.example/g00094/impl.opWords" = some (wordL.map fun l => Value.string (txt l)).toArray
theorem gOpw : Tryd.prog.globalNamed "loop.example/g00094/impl.opWords" = some 0 := by kernel_rfl
theorem Words.below {w w' : World} (h : Words w) (hb : Below w.heap.size w w') : Words w' := var_below gOpw h hb
theorem Words.cell {w : World} (h : Words w) (i : Nat) (l : List UInt8) (hl : wordL[i]? = some l) : w.cell? ⟨0, i, none⟩ = some (.string (txt l)) := by
  have := World.var?_cell gOpw h i
  rw [this]
  simp [hl]
def wordsData : DataW Unit := .agg (wordL.map fun l => .lit (.string l))
set_option maxRecDepth 100000 in
theorem words_of_head {W : World} {rest : List (String × DataW Unit)} {t e : TypeId}
    (hg : Tryd.prog.globalNamed "loop.example/g00094/impl.opWords" = some 0) (hty : (Tryd.prog.globals[0]?).map (·.type) = some t) (ht : Tryd.prog.underlying t = some (.array 26 e)) (he : Tryd.prog.underlying e = some .string) (hce : Tryd.prog.cellsOf e = 1) (hct : Tryd.prog.cellsOf t = 26)
    (h : laidMet Tryd.prog (("loop.example/g00094/impl.opWords", wordsData) :: rest) W) : Words W := by
  obtain ⟨ps, ⟨g', t', cs, fuel, p, q, hg', ht', hvar, hd, _, _⟩, _⟩ := h
  obtain rfl := Option.some.inj (hg.symm.trans hg')
  obtain rfl := Option.some.inj (hty.symm.trans ht')
  obtain ⟨xs, m, _, hx, hlen, hn, hel⟩ := DataW.trod_array ht hd
  have hxs : xs.map (·.1) = wordL.map fun l => (DataW.lit (.string l) : DataW Unit) := by
    have h9 : wordsData = DataW.agg (xs.map (·.1)) := congrArg Prod.fst hx
    exact (DataW.agg.inj h9).symm
  unfold Words
  rw [hvar]
  congr 1
  apply Array.toList_inj.1
  rw [hct] at hlen
  apply List.ext_getElem?
  intro i
  by_cases hi : i < 26
  · have h1 := hel i hi
    obtain ⟨b, hb⟩ : ∃ b, xs[i]? = some b := ⟨xs[i], List.getElem?_eq_getElem (by omega)⟩
    rw [hb, hce, Nat.mul_one] at h1
    obtain ⟨s, hc, rfl, _⟩ := DataW.trod_string he h1
    have h2 : cs.toList[i]? = some (.string s) := by
      have := congrArg (·[0]?) hc
      simpa [List.getElem?_take, List.getElem?_drop] using this
    have h3 : (xs.map (·.1))[i]? = some (DataW.lit (.string s.data.toList) : DataW Unit) := by simp [hb]
    rw [hxs] at h3
    simp only [List.getElem?_map, Option.map_eq_some_iff, DataW.lit.injEq, Lit.string.injEq] at h3
    obtain ⟨l, hl, he2⟩ := h3
    rw [h2]
    have e3 : s = txt l := by
      rw [he2]
      rfl
    simp [hl, e3]
  · rw [List.getElem?_eq_none (by omega), List.getElem?_eq_none (by simp [wordL]; omega)]
/-! ### joined -/
def blank : List UInt8 := [32]
theorem join_snoc (sep : List UInt8) (xs : List (List UInt8)) : ∀ n : Nat, n = xs.length → (Lib.join xs sep).length ≤ (xs.map List.length).sum + sep.length * xs.length := by
  induction xs with
  | nil => intro n _; simp [Lib.join_nil]
  | cons x r ih =>
    intro n _
    rw [Lib.join_cons]
    have h2 : ∀ r : List (List UInt8), (Lib.joinTail sep r).length = (r.map List.length).sum + sep.length * r.length := by
      intro r
      unfold Lib.joinTail
      induction r with
      | nil => simp
      | cons y r ih2 =>
        simp only [List.map_cons, List.flatten_cons, List.length_append, ih2, List.sum_cons, List.length_cons, Nat.mul_add, Nat.mul_one]
        omega
    simp only [List.length_append, h2, List.map_cons, List.sum_cons, List.length_cons, Nat.mul_add, Nat.mul_one]
    omega
def itoas (zs : List Int) : List (List UInt8) := zs.map Lib.itoa
theorem itoas_len (zs : List Int) (h : ∀ z ∈ zs, -9223372036854775808 ≤ z ∧ z ≤ 9223372036854775807) : (Lib.join (itoas zs) blank).length ≤ 22 * zs.length := by
  have h1 := join_snoc blank (itoas zs) _ rfl
  have h2 : ((itoas zs).map List.length).sum ≤ 21 * zs.length := by
    unfold itoas
    induction zs with
    | nil => simp
    | cons z r ih =>
      have h3 := Lib.itoa_length_le z (h z (by simp)).1 (h z (by simp)).2
      have h4 := ih (fun y hy => h y (by simp [hy])) (join_snoc blank (itoas r) _ rfl)
      simp only [List.map_cons, List.sum_cons, List.length_cons]
      omega
  have h5 : (itoas zs).length = zs.length := by simp [itoas]
  have h6 : blank.length = 1 := rfl
  rw [h5, h6] at h1
  omega
theorem infoStrT : (Tryd.prog.info? 9).map (fun i => (i.zero, i.size, i.bytes)) = some (some (.string ⟨#[]⟩), 1, 16) := by kernel_rfl
theorem joinExtra : Builder.Extra Tryd.prog laysJoin_ren := {
  sizeBuilder := by kernel_rfl
  liesBuilder := by kernel_rfl
  t5 := Tryd.underlying5
  a5 := Tryd.isAgg5
  z5 := Tryd.sizeOf5
  v5 := Tryd.zeroValue5
  infoByte := by kernel_rfl
  cellsByte := by kernel_rfl
  sizeByte := by kernel_rfl
  neB5 := by decide }
theorem joinC (g c : Nat) (xs : List (List UInt8)) (w : World) (hr : Knd.str.Row w (some ⟨g, 0, none⟩) xs.length (xs.map txt)) (hg : g < w.heap.size) (hc : xs.length ≤ c) (hn : xs.length ≤ 1000000) (hl : (Lib.join xs blank).length ≤ 100000000) :
    Calls Tryd.prog 62 #[.slice (some ⟨g, 0, none⟩) xs.length c, .string ⟨#[32]⟩] w fun e w' => e = .returned (.string (txt (Lib.join xs blank))) ∧ Below w.heap.size w w' := by
  have e1 : ((xs.map txt).map (·.data.toList)) = xs := by
    rw [List.map_map]
    conv => rhs; rw [← List.map_id xs]
    apply List.map_congr_left
    intro a _
    exact txt_list a
  have h := Any.strings_Join laysJoin joinExtra g 0 c (xs.map txt) ⟨#[32]⟩ w (fun j x hx => by
    obtain ⟨ad, e, q⟩ := hr.one j x hx
    cases e
    rw [Lib.add_plain] at q
    exact q) hg (by rw [List.length_map]; omega) (by rw [List.length_map]; exact hc) (by rw [e1]; show (Lib.join xs blank).length ≤ _; omega)
  rw [e1, List.length_map] at h
  exact h
set_option maxHeartbeats 2000000 in
set_option maxRecDepth 100000 in
theorem joinedC (A : Option Addr) (c : Nat) (zs : List Int) (w : World) (hr : (Knd.int .i64).Row w A zs.length zs) (hz : ∀ z ∈ zs, -9223372036854775808 ≤ z ∧ z ≤ 9223372036854775807) (hn : zs.length ≤ 1000) (h0 : 0 < zs.length) (ht : Tab w) :
    Calls Tryd.prog 38 #[.slice A zs.length c] w fun e w' => e = .returned (.string (txt (Lib.join (itoas zs) blank))) ∧ Below w.heap.size w w' := by
  have hS0 := (St.start w).litAt (enc := Value.string) (h1 := fun _ => rfl) (e := 9) ([] : List ByteArray) #[] rfl w.heap.size rfl 0 rfl (by simp)
  go_enter Tryd.func38, Tryd.ntmps38
  go_wp2
  go_loopw [3, 9] (fun v i wr => ∃ (k : Nat) (F : List Nat), k ≤ zs.length ∧ i = .int .i64 k ∧ St w [Res.own Knd.str 9 v ((itoas (zs.take k)).map txt) F] wr) (fun _ i _ => zs.length - (intOf i).toNat)
  case atStart => exact ⟨0, _, by omega, rfl, hS0⟩
  case round =>
    clear hS0
    obtain ⟨k, F, hk, rfl, hS⟩ := hrel
    by_cases hlt : k < zs.length
    · obtain ⟨z, hzk⟩ := get_exU zs k hlt
      obtain ⟨ad, rfl, q0⟩ := (hr.below hS.bel).one k z hzk
      obtain ⟨hz0, hz1⟩ := hz z (List.mem_of_getElem? hzk)
      have HN := Lib.hid (show (itoas (zs.take (k + 1))).map txt = (itoas (zs.take k)).map txt ++ [txt (Lib.itoa z)] by rw [List.take_add_one, hzk]; simp [itoas])
      have hlen : (itoas (zs.take k)).length = k := by simp [itoas]; omega
      clear hzk
      go_wp2_with fail
      refine (itoaI z hz0 hz1 _ (ht.below hS.bel)).mono ?_
      rintro e w1 ⟨rfl, hb⟩
      replace hS := hS.step hb
      clear hb q0
      go_wp2_with (at_builtin; refine Knd.wp_app1 rfl _ _ _ rfl 9 Tryd.underlying53 (.string ⟨#[]⟩) 16 infoStrT rfl rfl ((hS.al _).own_ 0 rfl) _ _ _ _ _ (blkAt _ _ (by simp)) rfl (by (try simp [maxLen]); (try omega)) (by (try simp); (try omega)) ?_; rintro gq cq wq hO hB hg; have hSq := (hS.al _).app1 0 rfl hO hB hg; clear hO hB hg hS; have hS := hSq; clear hSq)
      go_roundw
      case rel => exact ⟨k + 1, [gq], by omega, by go_num, by rw [HN.out]; have h9 := hS; rw [List.length_map, hlen] at h9; exact h9⟩
      case measure => simp [intOf]; omega
    · obtain rfl : k = zs.length := by omega
      rw [List.take_length] at hS
      have hlen : (itoas zs).length = zs.length := by simp [itoas]
      have hL := itoas_len zs hz
      obtain ⟨A', c', hv, hc', hrow⟩ := hS.row 0 rfl
      obtain ⟨g, c2, hv2, hg⟩ := own_form (hS.get 0 rfl) (by rw [List.length_map, hlen]; exact h0)
      rw [List.length_map] at hv hv2 hc' hrow
      subst hv2
      cases hv
      have hgl := hS.lts 0 rfl g hg
      have HC := Lib.hid (fun W (hr : Knd.str.Row W (some ⟨g, 0, none⟩) (itoas zs).length ((itoas zs).map txt)) (hg : g < W.heap.size) => joinC g c' (itoas zs) W hr hg hc' (by omega) (by omega))
      clear hL hlen hc'
      go_wp2_with fail
      refine (HC.out _ hrow hgl).mono ?_
      rintro e w1 ⟨rfl, hb⟩
      go_wp2
      go_ret
      exact ⟨rfl, (hS.step hb).bel⟩
end Go.Proofs.YtpjdecneeakkeaaDoor.Dat
