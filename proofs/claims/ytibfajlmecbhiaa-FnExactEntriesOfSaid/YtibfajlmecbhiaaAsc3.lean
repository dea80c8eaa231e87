/- impl's ascending. -/
import Derived.Test.YtibfajlmecbhiaaAsc2
import Derived.Lib.Hide
namespace Go.Proofs.Ytibfajlmecbhiaa.Dat
open Go Go.RowKit Go.Shelf Go.Sort Go.Proofs.Ytibfajlmecbhiaa.Mem
set_option linter.unusedVariables false
set_option linter.unusedSimpArgs false
set_option maxHeartbeats 2000000 in
set_option maxRecDepth 100000 in
/-- impl's ascending, of a row that the caller owns or reads. -/
theorem ascI (zs : List Int) (a : Option Addr) (c : Nat) (hlen : zs.length ≤ 1048576) (w : World) (hI : Ints w.heap.size w (.slice a zs.length c) zs) :
    Calls Try.prog 45 #[.slice a zs.length c] w (NewRow (Knd.int .i64) 3 (ascL zs) w) := by
  have hl : (zs.mergeSort fun x y => decide (x ≤ y)).length = zs.length := List.length_mergeSort zs
  have e0 : ascL zs = Lib.compact (zs.mergeSort fun x y => decide (x ≤ y)) := rfl
  have hcl := compact_len (zs.mergeSort fun x y => decide (x ≤ y))
  have hB0 : Below w.heap.size w (w.alloc (.cells #[.slice a zs.length c] 27)) := (Below.refl _ w).alloc (Nat.le_refl _) _
  have hI2 : Ints w.heap.size (w.alloc (.cells #[.slice a zs.length c] 27)) (.slice a zs.length c) zs := hI.below hB0
  have hI3 : Ints (w.alloc (.cells #[.slice a zs.length c] 27)).heap.size (w.alloc (.cells #[.slice a zs.length c] 27)) (.slice a zs.length c) zs := by
    rcases hI2 with h | ⟨b, off, cap, h1, h2, h3⟩
    · exact .inl h
    · exact .inr ⟨b, off, cap, h1, by simp; omega, h3⟩
  have cS := sorted w.heap.size (.slice a zs.length c) zs hlen (w.alloc (.cells #[.slice a zs.length c] 27)) (by simp) (Boxed.new w 27 _).cell hI3
  rw [e0]
  generalize (zs.mergeSort fun x y => decide (x ≤ y)) = ys at *
  have HL := Lib.hid hl
  clear hI hI2 hI3 e0 hl
  go_enter Try.func45, Try.ntmps45
  go_wp2_with fail
  refine (values a zs.length c _).mono ?_
  rintro e w' ⟨rfl, rfl⟩
  go_wp2_with fail
  refine cS.mono ?_
  rintro e w1 ⟨v, rfl, ⟨hrow, hnil⟩, hb⟩
  have hb1 : Below w.heap.size w w1 := hB0.trans (hb.mono (by simp))
  rcases hrow.2 with ⟨rfl, hz⟩ | ⟨gb, cap, cur, rfl, hbase, hgb, r1, r2, r3, r4⟩
  · obtain rfl := List.eq_nil_of_length_eq_zero hz
    have hN : NewRow (Knd.int .i64) 3 (Lib.compact ([] : List Int)) w (.returned (.slice none 0 0)) w1 := own_of_row (zs := []) ⟨rfl, .inl ⟨rfl, rfl⟩⟩ hb1
    clear hrow hnil hb hB0 hcl cS
    go_wp2_with fail
    refine (compNone none 0 _).mono ?_
    rintro e w' ⟨rfl, rfl⟩
    go_wp2
    go_ret
    exact hN
  · have hH : Holds (Value.int .i64) w1 gb 0 ys.toArray := holds_of_blockI hgb (by simpa using r4)
    have cC := compI gb cap ys w1 hH (by have := HL.out; omega) r1
    generalize hzz : Lib.compact ys = cs at *
    generalize hrr : (cs ++ List.replicate (ys.length - cs.length) 0) = rr at *
    have hrl : rr.length = ys.length := by rw [← hrr]; simp; omega
    have hrt : rr.take cs.length = cs := by rw [← hrr]; exact List.take_left' rfl
    have hO : ∀ q, (putRow (Value.int .i64) (Sort.ahead w1 q) gb 0 rr.toArray).ownsRow (w.alloc (.cells #[.slice a zs.length c] 27)).heap.size 3 1 (.slice (some ⟨gb, 0, none⟩) cs.length cap) cs.length (cs.map (Value.int .i64)) := fun q => by
      have := Lib.ownsRow_putRow (q := q) (k := cs.length) hrow (ys := rr) hrl hcl
      rwa [hrt] at this
    have hb2 : ∀ q, Below w.heap.size w (putRow (Value.int .i64) (Sort.ahead w1 q) gb 0 rr.toArray) := fun q => Lib.below_putRow hb1 (by simp at hbase; omega)
    clear hrow hnil hb hB0 hH cS
    go_wp2_with fail
    refine cC.mono ?_
    rintro e w2 ⟨rfl, q, hq⟩
    have hN : NewRow (Knd.int .i64) 3 cs w (.returned (.slice (some ⟨gb, 0, none⟩) cs.length cap)) w2 := by
      subst hq
      refine own_of_row ?_ (hb2 q)
      have := hO q
      refine ⟨this.1, ?_⟩
      rcases this.2 with h | ⟨g, c', cur', e1, e2, e3⟩
      · exact .inl h
      · exact .inr ⟨g, c', cur', e1, by simp at e2; omega, e3⟩
    clear hq hO hb2 cC
    go_wp2
    go_ret
    exact hN
end Go.Proofs.Ytibfajlmecbhiaa.Dat
