/- EntriesOf, in the program and in the reference. -/
import Derived.Test.YtibfajlmecbhiaaEnt
namespace Go.Proofs.Ytibfajlmecbhiaa.Dat
open Go Go.RowKit Go.Proofs.Ytibfajlmecbhiaa.Mem
set_option linter.unusedVariables false
set_option linter.unusedSimpArgs false
def entOf (t : List ByteArray) (l : List DFunc) (f : Int) : List Int := if isFuncB t l f then entriesL l (l.getD f.toNat zFunc).code else []
theorem entriesL_len (l : List DFunc) (c : List DIns) : (entriesL l c).length ≤ c.length + 1 := by
  have := headsL_len l c
  unfold entriesL
  split
  · omega
  · simp; omega
theorem entOf_no {t : List ByteArray} {l : List DFunc} {f : Int} (h : isFuncB t l f = false) : entOf t l f = [] := by unfold entOf; rw [h]; rfl
theorem entOf_at {t : List ByteArray} {l : List DFunc} {k : Nat} {y : DFunc} (h : isFuncB t l k = true) (hy : l[k]? = some y) : entOf t l k = entriesL l y.code := by
  have e : (l.getD (Int.toNat (k : Int)) zFunc).code = y.code := by rw [Int.toNat_natCast, List.getD_eq_getElem?_getD, hy]; rfl
  unfold entOf
  rw [h, e]
  rfl
theorem entOf_len (t : List ByteArray) (l : List DFunc) (f : Int) (hm : l.length ≤ 1048576) (hv : ∀ x ∈ l, x.code.length ≤ 1048576) : (entOf t l f).length ≤ 1048576 := by
  cases hg : isFuncB t l f
  · rw [entOf_no hg]
    simp
  · have hg2 := hg
    unfold isFuncB at hg2
    rw [Bool.and_eq_true, btw_true] at hg2
    obtain ⟨⟨h1, h2⟩, h3⟩ := hg2
    obtain ⟨k, rfl⟩ : ∃ k : Nat, f = k := ⟨f.toNat, by omega⟩
    obtain ⟨y, hy⟩ := get_exU l k (by omega)
    rw [entOf_at hg hy]
    have hfit := modFit (isGood_mod h3)
    have n120 := hfit.c120 y (List.mem_of_getElem? hy)
    have := entriesL_len l y.code
    omega
set_option maxHeartbeats 4000000 in
set_option maxRecDepth 100000 in
theorem entOfI (A B : Option Addr) (c d : Nat) (t : List ByteArray) (l : List DFunc) (f : Int) (w : World) (h : HasMod A B t l w) :
    Calls Try.prog 18 #[.agg #[.slice A t.length c, .slice B l.length d], .int .i64 f] w (NewRow (Knd.int .i64) 3 (entOf t l f) w) := by
  have hS0 := (St.start w).made (.cells #[.slice A t.length c, .slice B l.length d] 31 (0, 0))
  cases hg : isFuncB t l f
  · rw [entOf_no hg]
    have HG := Lib.hid hg
    clear hg
    go_enter Try.func18, Try.ntmps18
    go_wp2_with fail
    refine (isFuncI A B c d t l f _ (h.below hS0.bel) HG.out).mono ?_
    rintro e w' ⟨rfl, hb⟩
    have hS := hS0.step hb
    clear hS0 hb
    go_wp2
    go_ret
    exact newNil _ _ _ _ hS.bel
  have hg2 := hg
  unfold isFuncB at hg2
  rw [Bool.and_eq_true, btw_true] at hg2
  obtain ⟨⟨h1, h2⟩, h3⟩ := hg2
  obtain ⟨k, rfl⟩ : ∃ k : Nat, f = k := ⟨f.toNat, by omega⟩
  obtain ⟨y, hy⟩ := get_exU l k (by omega)
  rw [entOf_at hg hy]
  have HG := Lib.hid hg
  have HY := Lib.hid hy
  clear hg hy
  go_enter Try.func18, Try.ntmps18
  go_wp2_with fail
  refine (isFuncI A B c d t l k _ (h.below hS0.bel) HG.out).mono ?_
  rintro e w' ⟨rfl, hb⟩
  have hS := hS0.step hb
  have x0 := hS.cell 0 rfl
  clear hS0 hb
  go_wp2_with fail
  refine (entriesI A B c d t l k y _ (h.hr.below hS.bel) h3 HY.out).mono ?_
  intro e w3 hn
  obtain ⟨v, F, rfl, hS2⟩ := hS.newRow hn
  clear hn
  go_wp2
  go_ret
  exact hS2.outRow 0 rfl
set_option maxHeartbeats 4000000 in
set_option maxRecDepth 100000 in
theorem entOf03 (A B : Option Addr) (c d : Nat) (t : List ByteArray) (l : List DFunc) (f : Int) (w : World) (h : HasMod A B t l w) :
    Calls Try.prog 17 #[.agg #[.slice A t.length c, .slice B l.length d], .int .i64 f] w (NewRow (Knd.int .i64) 3 (entOf t l f) w) := by
  have hS0 := (St.start w).made (.cells #[.slice A t.length c, .slice B l.length d] 31 (0, 0))
  cases hg : isFuncB t l f
  · rw [entOf_no hg]
    have HG := Lib.hid hg
    clear hg
    go_enter Try.func17, Try.ntmps17
    go_wp2_with fail
    refine (is08 A B c d t l f _ (h.below hS0.bel) HG.out).mono ?_
    rintro e w' ⟨rfl, hb⟩
    have hS := hS0.step hb
    have hS2 := hS.litAt (enc := Value.int .i64) (h1 := fun _ => rfl) (e := 3) [] #[] rfl _ rfl 0 rfl (by simp)
    clear hS0 hb hS
    go_wp2
    go_ret
    exact hS2.outRow 0 rfl
  have hg2 := hg
  unfold isFuncB at hg2
  rw [Bool.and_eq_true, btw_true] at hg2
  obtain ⟨⟨h1, h2⟩, h3⟩ := hg2
  obtain ⟨k, rfl⟩ : ∃ k : Nat, f = k := ⟨f.toNat, by omega⟩
  obtain ⟨y, hy⟩ := get_exU l k (by omega)
  rw [entOf_at hg hy]
  have HG := Lib.hid hg
  have HY := Lib.hid hy
  clear hg hy
  go_enter Try.func17, Try.ntmps17
  go_wp2_with fail
  refine (is08 A B c d t l k _ (h.below hS0.bel) HG.out).mono ?_
  rintro e w' ⟨rfl, hb⟩
  have hS := hS0.step hb
  have x0 := hS.cell 0 rfl
  clear hS0 hb
  go_wp2_with fail
  refine (entries03 A B c d t l k y _ (h.hr.below hS.bel) h3 HY.out).mono ?_
  intro e w3 hn
  obtain ⟨v, F, rfl, hS2⟩ := hS.newRow hn
  clear hn
  go_wp2
  go_ret
  exact hS2.outRow 0 rfl
end Go.Proofs.Ytibfajlmecbhiaa.Dat
