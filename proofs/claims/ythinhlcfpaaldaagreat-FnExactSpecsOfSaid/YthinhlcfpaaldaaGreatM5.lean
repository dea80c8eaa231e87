/- A bundle: FlP FlQ FlR FlN GoP. -/
import Derived.Test.YthinhlcfpaaldaaGreatFkZ
import Derived.Test.YthinhlcfpaaldaaGreatM2
import Derived.Test.YthinhlcfpaaldaaGreatVmR
import Derived.Test.YthinhlcfpaaldaaGreatM4
import Derived.Test.YthinhlcfpaaldaaGreatK6
import Derived.Test.YthinhlcfpaaldaaGreatK4
/- What code must be, plainly. -/
namespace Go.Proofs.YthinhlcfpaaldaaGreat.Dat
open Go Go.RowKit Go.Proofs.YthinhlcfpaaldaaGreat.Mem
set_option linter.unusedVariables false
set_option linter.unusedSimpArgs false
def funAt (l : List DFunc) (f : Int) : Option DFunc := if btw f 0 ((l.length : Int) - 1) = true then l[f.toNat]? else none
def lastB (c : DFast) : Bool := match c.ops[c.ops.length - 1]? with
  | none => false
  | some o => decide (o.op = 23) || (decide (o.op = 26) || decide (o.op = 27))
def fastHeadB (l : List DFunc) (c : DFast) : Bool := match funAt l c.fn with
  | none => false
  | some y => (entriesL l y.code).contains c.entry && (btw c.vals (y.locals + at0 (depthsL l y.code) c.entry) 400 && btw c.nums 0 400)
def fastB (l : List DFunc) (c : DFast) : Bool := fastHeadB l c && ((btw (c.ops.length : Int) 1 1500 && decide (c.exits.length ≤ 1500)) && ((List.range c.ops.length).all (opAtB l c) && (lastB c && c.exits.all (exitB l c))))
def srcsB (l : List DFunc) (c : DFast) (nr : Nat) (xs : List DSrc) : Bool := xs.all (srcB l.length c.vals c.nums nr)
/-- A frame of an exit: its sources and its place. -/
def exFr3 (l : List DFunc) (c : DFast) (nr : Nat) (fs : List DExFrame) (k : Nat) : Bool := match fs[k]? with
  | none => true
  | some f => (srcsB l c nr f.locals && srcsB l c nr f.stack) && frmB l f.fn f.pc f.locals.length f.stack.length (decide (k + 1 = fs.length))
def exRec3 (l : List DFunc) (c : DFast) (nr : Nat) (r : DExRec) : Bool := decide (r.fields.length ≤ 6) && srcsB l c nr r.fields
theorem exFr3_of {l : List DFunc} {c : DFast} {nr : Nat} {fs : List DExFrame} {k : Nat} {f : DExFrame} (h : fs[k]? = some f) : exFr3 l c nr fs k = ((srcsB l c nr f.locals && srcsB l c nr f.stack) && frmB l f.fn f.pc f.locals.length f.stack.length (decide (k + 1 = fs.length))) := by
  unfold exFr3
  rw [h]
theorem srcF_all (p : DSrc → Bool) (fs : List DExFrame) : (srcF fs).all p = fs.all (fun f => f.locals.all p && f.stack.all p) := by
  unfold srcF
  induction fs with
  | nil => rfl
  | cons f fs ih => simp only [List.map_cons, List.flatten_cons, List.all_append, List.all_cons, ih]
theorem srcR_all (p : DSrc → Bool) (rs : List DExRec) : (srcR rs).all p = rs.all (fun r => r.fields.all p) := by
  unfold srcR
  induction rs with
  | nil => rfl
  | cons f fs ih => simp only [List.map_cons, List.flatten_cons, List.all_append, List.all_cons, ih]
def exit3B (l : List DFunc) (c : DFast) (x : DExit) : Bool := exHeadB c x && (exSpecB l x && ((List.range x.frames.length).all (exFr3 l c x.recs.length x.frames) && x.recs.all (exRec3 l c x.recs.length)))
theorem exit3 (l : List DFunc) (c : DFast) (x : DExit) : exitB l c x = exit3B l c x := by
  unfold exitB exit3B exSrcB srcsL exFrB
  rw [List.all_append, srcF_all, srcR_all]
  have e1 : (List.range x.frames.length).all (exFr3 l c x.recs.length x.frames) = ((List.range x.frames.length).all (fun i => match x.frames[i]? with
      | none => true
      | some f => frmB l f.fn f.pc f.locals.length f.stack.length (decide (i + 1 = x.frames.length))) && x.frames.all (fun f => f.locals.all (srcB l.length c.vals c.nums x.recs.length) && f.stack.all (srcB l.length c.vals c.nums x.recs.length))) := by
    rw [range_get _ x.frames, all_and]
    congr 1
    funext k
    unfold exFr3 srcsB
    cases x.frames[k]? with
    | none => rfl
    | some f => exact Bool.and_comm _ _
  have e2 : x.recs.all (exRec3 l c x.recs.length) = (x.recs.all (fun r => decide (r.fields.length ≤ 6)) && x.recs.all (fun r => r.fields.all (srcB l.length c.vals c.nums x.recs.length))) := by
    rw [all_and]
    rfl
  rw [e1, e2]
  have key : ∀ a b f g r s : Bool, (a && (b && (f && (r && (g && s))))) = (a && (b && ((f && g) && (r && s)))) := by decide
  exact key _ _ _ _ _ _
theorem noS_nil : noS zValue.s = true := by simp [noS, zValue, ByteArray.toList, ByteArray.toList.loop, ByteArray.size]
theorem valB_nil (nf nr : Int) : valB nf nr zValue = true := by
  unfold valB
  rw [noS_nil]
  rfl
theorem frm3_nil (l : List DFunc) (fn pc : Int) (a b : Nat) (top : Bool) : frm3B l ⟨fn, pc, List.replicate a zValue, List.replicate b zValue⟩ 0 top = frmB l fn pc a b top := by
  have e : ∀ n : Nat, (List.replicate n zValue).all (valB l.length ((0 : Nat) : Int)) = true := fun n => by
    rw [List.all_eq_true]
    intro x hx
    rw [(List.mem_replicate.1 hx).2]
    exact valB_nil _ _
  unfold frm3B
  simp only [e, List.length_replicate, Bool.and_true]
theorem nil_M (fn pc : Int) (a b : Nat) (ha : a ≤ 1048576) (hb : b ≤ 1048576) : MFrame ⟨fn, pc, List.replicate a zValue, List.replicate b zValue⟩ := by
  have e : ∀ n : Nat, ∀ y ∈ List.replicate n zValue, MValue y := fun n y hy => by
    rw [(List.mem_replicate.1 hy).2]
    show (0 : Nat) ≤ 1048576
    omega
  exact ⟨⟨by simpa using ha, e a⟩, ⟨by simpa using hb, e b⟩⟩
/-! ### Sizes -/
theorem len_srcF (fs : List DExFrame) : (srcF fs).length ≤ (fs.map msExFrame).sum := by
  unfold srcF
  induction fs with
  | nil => exact Nat.le_refl _
  | cons f fs ih =>
    simp only [List.map_cons, List.flatten_cons, List.length_append, List.sum_cons]
    have e : msExFrame f = (f.locals.length + (f.locals.map msSrc).sum) + (f.stack.length + (f.stack.map msSrc).sum) := rfl
    omega
theorem len_srcR (rs : List DExRec) : (srcR rs).length ≤ (rs.map msExRec).sum := by
  unfold srcR
  induction rs with
  | nil => exact Nat.le_refl _
  | cons f fs ih =>
    simp only [List.map_cons, List.flatten_cons, List.length_append, List.sum_cons]
    have e : msExRec f = f.fields.length + (f.fields.map msSrc).sum := rfl
    omega
theorem mem_src {s : DSrc} {xs : List DSrc} (h : s ∈ xs) : s.v.s.size ≤ (xs.map msSrc).sum := mem_sum msSrc xs s h
theorem mem_srcF {s : DSrc} {fs : List DExFrame} (h : s ∈ srcF fs) : s.v.s.size ≤ (fs.map msExFrame).sum := by
  unfold srcF at h
  obtain ⟨q, hq, hs⟩ := List.mem_flatten.1 h
  obtain ⟨f, hf, rfl⟩ := List.mem_map.1 hq
  have h1 := mem_sum msExFrame fs f hf
  have e : msExFrame f = (f.locals.length + (f.locals.map msSrc).sum) + (f.stack.length + (f.stack.map msSrc).sum) := rfl
  rcases List.mem_append.1 hs with hs | hs
  · have := mem_src hs
    omega
  · have := mem_src hs
    omega
theorem mem_srcR {s : DSrc} {rs : List DExRec} (h : s ∈ srcR rs) : s.v.s.size ≤ (rs.map msExRec).sum := by
  unfold srcR at h
  obtain ⟨q, hq, hs⟩ := List.mem_flatten.1 h
  obtain ⟨f, hf, rfl⟩ := List.mem_map.1 hq
  have h1 := mem_sum msExRec rs f hf
  have e : msExRec f = f.fields.length + (f.fields.map msSrc).sum := rfl
  have := mem_src hs
  omega
theorem srcs_fit {x : DExit} (h : msExit x ≤ 1048576) : (srcsL x).length ≤ 1048576 ∧ ∀ s ∈ srcsL x, s.v.s.size ≤ maxLen := by
  have e : msExit x = (x.frames.length + (x.frames.map msExFrame).sum) + (x.recs.length + (x.recs.map msExRec).sum) := rfl
  refine ⟨?_, fun s hs => ?_⟩
  · unfold srcsL
    have := len_srcF x.frames
    have := len_srcR x.recs
    rw [List.length_append]
    omega
  · unfold maxLen
    rcases List.mem_append.1 hs with hs | hs
    · have := mem_srcF hs
      omega
    · have := mem_srcR hs
      omega
theorem ms_exit {c : DFast} {x : DExit} (h : msFast c ≤ 1048576) (hx : x ∈ c.exits) : msExit x ≤ 1048576 := by
  have e : msFast c = (c.ops.length + (c.ops.map msFOp).sum) + (c.exits.length + (c.exits.map msExit).sum) := rfl
  have := mem_sum msExit c.exits x hx
  omega
theorem ms_op {c : DFast} {o : DFOp} (h : msFast c ≤ 1048576) (hx : o ∈ c.ops) : o.v.s.size ≤ maxLen := by
  have e : msFast c = (c.ops.length + (c.ops.map msFOp).sum) + (c.exits.length + (c.exits.map msExit).sum) := rfl
  have h2 := mem_sum msFOp c.ops o hx
  have e2 : msFOp o = o.v.s.size := rfl
  unfold maxLen
  omega
theorem put1_zero {n : Nat} {left : Int} {s : List Int × Bool} {next : Int} (h : at0 s.1 0 = 0) : at0 (put1 n left s next).1 0 = 0 := by
  unfold put1
  split
  · rename_i h1
    have hne : next.toNat ≠ 0 := fun e => by
      have h2 := h1.2
      unfold at0 at h h2
      rw [e] at h2
      rw [show (0 : Int).toNat = 0 from rfl] at h
      omega
    unfold at0 at h ⊢
    rw [show (0 : Int).toNat = 0 from rfl, List.getD_eq_getElem?_getD] at h ⊢
    rw [List.getElem?_set_ne hne]
    exact h
  · exact h
theorem puts_zero {n : Nat} {left : Int} : ∀ (ns : List Int) (s : List Int × Bool), at0 s.1 0 = 0 → at0 (ns.foldl (put1 n left) s).1 0 = 0
  | [], s, h => h
  | x :: ns, s, h => puts_zero ns _ (put1_zero h)
theorem stepD_zero {l : List DFunc} {n : Nat} {x : DIns} {pc : Nat} {s : List Int × Bool} (h : at0 s.1 0 = 0) : at0 (stepD l n x pc s).1 0 = 0 := by
  unfold stepD
  split
  · exact h
  · split
    · exact puts_zero _ _ h
    · exact h
theorem sweepD_zero {l : List DFunc} {n : Nat} : ∀ (c : List DIns) (pc : Nat) (s : List Int × Bool), at0 s.1 0 = 0 → at0 (sweepD l n c pc s).1 0 = 0
  | [], _, s, h => h
  | x :: c, pc, s, h => sweepD_zero c (pc + 1) _ (stepD_zero h)
theorem fixD_zero {l : List DFunc} {c : List DIns} : ∀ (k : Nat) (d : List Int), at0 d 0 = 0 → at0 (fixD l c k d) 0 = 0
  | 0, d, h => h
  | k + 1, d, h => by
    unfold fixD
    split
    · exact fixD_zero k _ (sweepD_zero c 0 (d, false) h)
    · exact sweepD_zero c 0 (d, false) h
theorem depth_zero (l : List DFunc) {c : List DIns} : at0 (depthsL l c) 0 = 0 := by
  refine fixD_zero _ _ ?_
  unfold at0 initD
  rw [show (0 : Int).toNat = 0 from rfl, List.getD_eq_getElem?_getD]
  cases c with
  | nil => rfl
  | cons x c => rfl
theorem entry_fit {t : List ByteArray} {l : List DFunc} (hgd : isGoodB t l = true) {y : DFunc} (hym : y ∈ l) {e : Int} (he : e ∈ entriesL l y.code) : 0 ≤ e ∧ e < y.code.length ∧ 0 ≤ at0 (depthsL l y.code) e := by
  have hfit := modFit (isGood_mod hgd)
  have hc1 := hfit.c1 y hym
  rw [← entries_asc, ascL_mem, List.mem_append, List.mem_singleton] at he
  rcases he with he | rfl
  · have hc : ∀ x ∈ y.code, InsFit y.code.length x := fun x hx => hfit.fit hym hx
    rw [← heads_asc hc, ascL_mem, mem_headR] at he
    obtain ⟨j, x, hx, hz⟩ := he
    rw [Nat.zero_add] at hz
    obtain ⟨h0, hj, hle, rfl⟩ := mem_headO.1 hz
    have hg := good_ins hgd hym hx h0
    have hj2 := (hc x (List.mem_of_getElem? hx)).jmp hj
    have hn : x.a ∈ nexts x j := by
      rw [isJmp, btw_true] at hj
      by_cases h17 : x.op = 17
      · rw [nexts_17 x j h17]
        exact List.mem_singleton.2 rfl
      · rw [nexts_18 x j (by omega)]
        simp
    refine ⟨hj2.1, by omega, ?_⟩
    rw [(hg.2 _ hn).2]
    have hcan := hg.1
    unfold canB at hcan
    rw [Bool.and_eq_true] at hcan
    have h1 := of_decide_eq_true hcan.1
    have h2 := uses_fit l x.op x.a hfit.par
    unfold leftOf
    omega
  · rw [depth_zero]
    omega
theorem funAt_no {l : List DFunc} {f : Int} (h : btw f 0 ((l.length : Int) - 1) = false) : funAt l f = none := by
  unfold funAt
  rw [h]
  rfl
theorem funAt_of {l : List DFunc} {f : Int} {k : Nat} {y : DFunc} (hf : f = k) (hy : l[k]? = some y) : funAt l f = some y := by
  have hk := (List.getElem?_eq_some_iff.1 hy).1
  unfold funAt
  rw [hf, if_pos (btw_true.2 (by omega)), Int.toNat_natCast]
  exact hy
theorem has_any (zs : List Int) (e : Int) : zs.contains e = zs.any (fun x => decide (x = e)) := by
  rw [Bool.eq_iff_iff, List.contains_iff_mem, List.any_eq_true]
  constructor
  · intro h
    exact ⟨e, h, by simp⟩
  · rintro ⟨x, hx, he⟩
    rw [← of_decide_eq_true he]
    exact hx
theorem fast_no {l : List DFunc} {c : DFast} (h : fastHeadB l c = false) : fastB l c = false := by unfold fastB; rw [h, Bool.false_and]
end Go.Proofs.YthinhlcfpaaldaaGreat.Dat

/- The reference's box among resources that lie ahead of it; rows of nils made in a region that draws its order. -/
namespace Go.Proofs.YthinhlcfpaaldaaGreat.Mem
open Go Go.RowKit
set_option linter.unusedVariables false
set_option linter.unusedSimpArgs false
section
variable {P : Program} {L : List Oper} {Q : Exit → Act → World → Prop} {md : Region.Mode} {S : World → Prop} {fuel : Nat} {listed : Array Bool} {a : Act} {w : World}
theorem regC3 (i j k : Nat) {o o' o'' : Oper} (hi : L[i]? = some o) (hj : L[j]? = some o') (hk : L[k]? = some o'') (hr : Region.ready md L.toArray listed = [i, j, k]) (hw : Region.wanted o (yielded L.toArray a.tmps) = true) (hw' : Region.wanted o' (yielded L.toArray a.tmps) = true) (hw'' : Region.wanted o'' (yielded L.toArray a.tmps) = true)
    (h : ∀ K' : Act → World → Prop, Shut (∀ a w, S w → (S w → wpAnyH P md L.toArray Q S fuel (listed.setIfInBounds i true) a w) → K' a w) → Oper.wp P o a w K' Q)
    (h' : ∀ K' : Act → World → Prop, Shut (∀ a w, S w → (S w → wpAnyH P md L.toArray Q S fuel (listed.setIfInBounds j true) a w) → K' a w) → Oper.wp P o' a w K' Q)
    (h'' : ∀ K' : Act → World → Prop, Shut (∀ a w, S w → (S w → wpAnyH P md L.toArray Q S fuel (listed.setIfInBounds k true) a w) → K' a w) → Oper.wp P o'' a w K' Q) : wpAnyH P md L.toArray Q S (fuel + 1) listed a w :=
  wpAnyH_ready hr (by simp) (AllReadyH.cons (by simpa using hi) (fun K hK => by rw [if_pos hw]; exact h K hK) (AllReadyH.cons (by simpa using hj) (fun K hK => by rw [if_pos hw']; exact h' K hK) (AllReadyH.cons (by simpa using hk) (fun K hK => by rw [if_pos hw'']; exact h'' K hK) AllReadyH.nil)))
end
/-- A row of nils made, where the operation may come up. -/
theorem Knd.opMade {α : Type} (d : Knd α) {P : Program} {o : Oper} {a : Act} {K : Act → World → Prop} {Q : Exit → Act → World → Prop} {W : World} (t x y : _) (ho : o.op = .makeSlice t x y) (n : Nat) (hx : a.eval x = .int .i64 n) (hy : a.eval y = .int .i64 n)
    (e : Nat) (ht : P.underlying t = some (.slice e)) (z : Value) (bytes : Nat) (hinfo : (P.info? e).map (fun i => (i.zero, i.size, i.bytes)) = some (some z, d.sz, bytes)) (hz : z.cells.size = d.sz) (hs0 : 0 < d.sz) (hb0 : 0 < bytes)
    (z0 : α) (hzero : ∀ w, d.O w z0 z.cells.toList []) (hl : n * bytes ≤ 281474976710656)
    (h : ∀ g w1, W.heap.size = g → OwnF d e w1 (.slice (some ⟨g, 0, none⟩) n n) (List.replicate n z0) (List.replicate n []) → Below W.heap.size W w1 → K (a.put o.dst (.slice (some ⟨g, 0, none⟩) n n)) w1) : Oper.wp P o a W K Q := by
  obtain ⟨i0, hi, hzz⟩ := Option.map_eq_some_iff.1 hinfo
  simp only [Prod.mk.injEq] at hzz
  obtain ⟨hz0, hz1, hz2⟩ := hzz
  have hm : n ≤ 281474976710656 := Nat.le_trans (Nat.le_mul_of_pos_right _ hb0) hl
  have hr := run_make (P := P) W t e i0 z ht hi hz0 .i64 .i64 (n : Int) (n : Int) (by omega) (by omega)
    (by
      have h3 : ((i0.bytes * n : Nat) : Int) ≤ 281474976710656 := by rw [hz2, Nat.mul_comm]; omega
      rwa [Int.natCast_mul] at h3) (by omega)
  simp only [Int.toNat_natCast] at hr
  rw [hz1] at hr
  have hrun : (execOp a.eval o).run P W = .ok (.value (.slice (some ⟨W.heap.size, 0, none⟩) n n)) (W.alloc (.cells (madeCells z.cells (n * d.sz)) e)) := by simp [execOp, ho, hx, hy, hr]
  unfold Oper.wp
  rw [hrun]
  refine h _ _ rfl ⟨_, ?_, els_made d _ z z0 hz hs0 (hzero _) n⟩ ((Below.refl _ _).alloc (Nat.le_refl _) _)
  have h2 := World.ownsRow_lit (base := 0) (e := e) (size := d.sz) W (madeCells z.cells (n * d.sz)) n (Nat.zero_le _) (by simp [maxLen]; omega) (size_madeCells _ _)
  simpa using h2
theorem St.madeK {w W W' : World} {L : List Res} {α : Type} {d : Knd α} {e : Nat} {g n : Nat} {z0 : α} (h : St w L W) (ho : Knd.OwnF d e W' (.slice (some ⟨g, 0, none⟩) n n) (List.replicate n z0) (List.replicate n [])) (hg : W.heap.size = g) (hb : Below W.heap.size W W') : St w (Res.own d e (.slice (some ⟨g, 0, none⟩) n n) (List.replicate n z0) [g] :: L) W' := by
  have h2 := ho.own
  rw [show (List.replicate n ([] : List Nat)).flatten = [] by simp] at h2
  have e1 : (Value.slice (some (⟨g, 0, none⟩ : Addr)) n n).ownBlock.toList ++ [] = [g] := rfl
  rw [e1] at h2
  exact h.new hb h2 (by simp [Res.own]) (by simp [Res.own, hg])
end Go.Proofs.YthinhlcfpaaldaaGreat.Mem
namespace Go.Proofs.YthinhlcfpaaldaaGreat.Dat
open Go Go.RowKit Go.Proofs.YthinhlcfpaaldaaGreat.Mem
set_option linter.unusedVariables false
set_option linter.unusedSimpArgs false
theorem setP {α : Type} {L P : List α} {i : Nat} {x : α} (hl : i < L.length) : (P ++ L.set i x)[P.length + i]? = some x := by
  rw [List.getElem?_append_right (by omega), Nat.add_sub_cancel_left, List.getElem?_set_self hl]
theorem setP2 {α : Type} {L P : List α} {i : Nat} {x y : α} : (P ++ L.set i x).set (P.length + i) y = P ++ L.set i y := by
  rw [List.set_append_right _ _ (by omega), Nat.add_sub_cancel_left, List.set_set]
theorem needP (P : List Res) {w0 W : World} {L : List Res} (A B A4 A5 : Option Addr) (c0 d0 c4 c5 : Nat) (t : List ByteArray) (l : List DFunc) (c : DFast) {i g : Nat} {x : Bool} (hl : i < L.length) (hS : St w0 (P ++ L.set i (kbox A B A4 A5 c0 d0 c4 c5 t l c g x)) W) (ok : Bool) :
    Calls Tryz.prog 280 #[.pointer (some ⟨g, 0, none⟩), .bool ok] W fun e w' => e = .returned (.tuple #[]) ∧ St w0 (P ++ L.set i (kbox A B A4 A5 c0 d0 c4 c5 t l c g (x || !ok))) w' :=
  (need10 A B A4 A5 c0 d0 c4 c5 t l c hS (P.length + i) (setP hl) ok).mono fun e w' h => ⟨h.1, by have h2 := h.2; rwa [setP2] at h2⟩
theorem srcsP (P : List Res) {w0 W : World} {L : List Res} (A B A4 A5 : Option Addr) (c0 d0 c4 c5 : Nat) (t : List ByteArray) (l : List DFunc) (c : DFast) {i g : Nat} {x : Bool} (hl : i < L.length) (hS : St w0 (P ++ L.set i (kbox A B A4 A5 c0 d0 c4 c5 t l c g x)) W) (A6 : Option Addr) (c6 : Nat) (xs : List DSrc) (nr : Nat) (r6 : kSrc.Row w0 A6 xs.length xs) (hv : ∀ s ∈ xs, s.v.s.size ≤ maxLen) (hn : xs.length ≤ 4194304) (hl12 : l.length ≤ 12) (h1 : 0 ≤ c.vals) (h2 : c.vals ≤ 400) (h3 : 0 ≤ c.nums) (h4 : c.nums ≤ 400) :
    Calls Tryz.prog 284 #[.pointer (some ⟨g, 0, none⟩), .slice A6 xs.length c6, .int .i64 nr] W fun e w' => e = .returned (.tuple #[]) ∧ St w0 (P ++ L.set i (kbox A B A4 A5 c0 d0 c4 c5 t l c g (x || !(srcsB l c nr xs)))) w' :=
  (srcs10 A B A4 A5 c0 d0 c4 c5 t l c hS (P.length + i) (setP hl) A6 c6 xs nr r6 hv hn hl12 h1 h2 h3 h4).mono fun e w' h => ⟨h.1, by have h2 := h.2; rwa [setP2] at h2⟩
theorem kfactsP (P : List Res) {w0 W : World} {L : List Res} (A B A4 A5 : Option Addr) (c0 d0 c4 c5 : Nat) (t : List ByteArray) (l : List DFunc) (c : DFast) {i g : Nat} {x : Bool} (hl : i < L.length) (hS : St w0 (P ++ L.set i (kbox A B A4 A5 c0 d0 c4 c5 t l c g x)) W) : (∀ j, W.cell? ⟨g, j, none⟩ = (#[.slice A t.length c0, .slice B l.length d0, .int .i64 c.fn, .int .i64 c.entry, .int .i64 c.vals, .int .i64 c.nums, .slice A4 c.ops.length c4, .slice A5 c.exits.length c5, .bool x] : Array Value)[j]?) ∧ (∀ j, W.frozen? ⟨g, j, none⟩ = false) ∧ g < W.heap.size :=
  ⟨hS.cell (P.length + i) (setP hl), hS.free (P.length + i) (setP hl), hS.blt (P.length + i) (setP hl)⟩
theorem finP (P : List Res) {w0 W : World} {L : List Res} {A B A4 A5 : Option Addr} {c0 d0 c4 c5 : Nat} {t : List ByteArray} {l : List DFunc} {c : DFast} {i g : Nat} {x y : Bool} (h : St w0 (P ++ L.set i (kbox A B A4 A5 c0 d0 c4 c5 t l c g x)) W) (e : x = y) : St w0 (P ++ L.set i (kbox A B A4 A5 c0 d0 c4 c5 t l c g y)) W := e ▸ h
def fastOkB (t : List ByteArray) (l : List DFunc) (c : DFast) : Bool := isGoodB t l && fastB l c
/-! ### Ops at a place -/
/-! ### Counts -/
/-! ### Functions laid in -/
/-! ### What an exit's frames are -/
theorem fast_len {l : List DFunc} {c : DFast} (h : fastB l c = true) : 1 ≤ c.ops.length ∧ c.ops.length ≤ 1500 ∧ c.exits.length ≤ 1500 := by
  unfold fastB at h
  simp only [Bool.and_eq_true, decide_eq_true_eq] at h
  have := btw_true.1 h.2.1.1
  omega
/-! ### A state at the entry -/
end Go.Proofs.YthinhlcfpaaldaaGreat.Dat
