/- NewTier, in the program and in the reference. -/
import Derived.Test.YticlknijmnddeaaGreatStart3
import Derived.Test.YticlknijmnddeaaGreatGTier
namespace Go.Proofs.YticlknijmnddeaaGreat.Dat
open Go Go.RowKit Go.Proofs.YticlknijmnddeaaGreat.Mem
set_option linter.unusedVariables false
set_option linter.unusedSimpArgs false
def newTierV (t : List ByteArray) (l : List DFunc) (args : List DValue) : DTier := ⟨startV t l args, [], [], [], 0, 0⟩
theorem newTierV_ms (t : List ByteArray) (l : List DFunc) (args : List DValue) : msTier (newTierV t l args) ≤ 1048576 := by
  have h := startV_ms t l args
  unfold msTier newTierV
  simp [sumOf]
  exact h
set_option maxHeartbeats 4000000 in
set_option maxRecDepth 100000 in
theorem newTierI (A B D : Option Addr) (c d e0 : Nat) (t : List ByteArray) (l : List DFunc) (args : List DValue) (w : World) (h : HasMod A B t l w) (hr : kValue.Row w D args.length args) (hm : args.length ≤ 1048576 ∧ ∀ y ∈ args, MValue y) {Y : DTier} (hY : newTierV t l args = Y) :
    Calls Tryz.prog 44 #[.agg #[.slice A t.length c, .slice B l.length d], .slice D args.length e0] w (fun en w' => ∃ (v0 v1 v3 v10 v11 v12 : Value) (F0 F1 F3 F10 F11 F12 : List Nat), en = .returned (.tuple #[.agg #[v0, v1, .int .i64 Y.vm.made, v3, .int .i64 Y.vm.status, .int .i64 Y.vm.trap, .int .i64 Y.vm.value.k, .int .i64 Y.vm.value.n, .string Y.vm.value.s, .int .i64 Y.vm.steps, v10, v11, v12, .int .i64 Y.guards, .int .i64 Y.entered], .bool (startB t l args)]) ∧ St w [Res.own kFrame 107 v0 Y.vm.frames F0, Res.own kRec 110 v1 Y.vm.heap F1, Res.own Knd.str 9 v3 Y.vm.out F3, Res.own kSite 146 v10 Y.sites F10, Res.own kFast 229 v11 Y.codes F11, Res.own kFail 232 v12 Y.fails F12] w') := by
  have hS := ((St.start w).made (.cells #[.slice A t.length c, .slice B l.length d] 37 (0, 0))).madeAt (.cells #[.slice none 0 0, .slice none 0 0, .int .i64 0, .slice none 0 0, .int .i64 0, .int .i64 0, .int .i64 0, .int .i64 0, .string (⟨#[]⟩ : ByteArray), .int .i64 0, .slice none 0 0, .slice none 0 0, .slice none 0 0, .int .i64 0, .int .i64 0] 75 (0, 0)) (w.heap.size + 1) (by simp)
  obtain ⟨X, hX⟩ : ∃ X, startV t l args = X := ⟨_, rfl⟩
  have eY : Y = ⟨X, [], [], [], 0, 0⟩ := by rw [← hY, ← hX]; rfl
  subst eY
  have x_m := hS.cell 1 rfl
  have HX := Lib.hid hX
  clear hX
  go_enter Tryz.func44, Tryz.ntmps44
  go_wp2_with fail
  refine (startI A B D c d e0 t l args _ (h.below hS.bel) (hr.below hS.bel) hm HX.out).mono ?_
  rintro e w3 ⟨v0, v1, v3, F0, F1, F3, rfl, hS3⟩
  obtain ⟨A0, c0, rfl, _, _⟩ := hS3.row 0 rfl
  obtain ⟨A1, c1, rfl, _, _⟩ := hS3.row 1 rfl
  obtain ⟨A3, c3, rfl, _, _⟩ := hS3.row 2 rfl
  have hJ := hS.join hS3
  obtain ⟨g8, hg8⟩ : ∃ g8, w3.heap.size = g8 := ⟨_, rfl⟩
  have hT := hJ.madeAt (.cells #[.slice A0 X.frames.length c0, .slice A1 X.heap.length c1, .int .i64 X.made, .slice A3 X.out.length c3, .int .i64 X.status, .int .i64 X.trap, .int .i64 X.value.k, .int .i64 X.value.n, .string X.value.s, .int .i64 X.steps] 43 (0, 0)) g8 hg8
  clear hS hS3 hJ x_m
  have x_v := hT.cell 0 rfl
  have x_t := hT.cell 4 rfl
  have f_t := hT.free 4 rfl
  have hE : St w [Res.box g8 (.cells #[.slice A0 X.frames.length c0, .slice A1 X.heap.length c1, .int .i64 X.made, .slice A3 X.out.length c3, .int .i64 X.status, .int .i64 X.trap, .int .i64 X.value.k, .int .i64 X.value.n, .string X.value.s, .int .i64 X.steps] 43 (0, 0)), Res.own kFrame 107 (.slice A0 X.frames.length c0) X.frames F0, Res.own kRec 110 (.slice A1 X.heap.length c1) X.heap F1, Res.own Knd.str 9 (.slice A3 X.out.length c3) X.out F3, Res.box (w.heap.size + 1) (.cells #[.slice A0 X.frames.length c0, .slice A1 X.heap.length c1, .int .i64 X.made, .slice A3 X.out.length c3, .int .i64 X.status, .int .i64 X.trap, .int .i64 X.value.k, .int .i64 X.value.n, .string X.value.s, .int .i64 X.steps, .slice none 0 0, .slice none 0 0, .slice none 0 0, .int .i64 0, .int .i64 0] 75 (0, 0)), Res.box w.heap.size (.cells #[.slice A t.length c, .slice B l.length d] 37 (0, 0))] ((((((((((((((((w3.alloc (.cells #[.slice A0 X.frames.length c0, .slice A1 X.heap.length c1, .int .i64 X.made, .slice A3 X.out.length c3, .int .i64 X.status, .int .i64 X.trap, .int .i64 X.value.k, .int .i64 X.value.n, .string X.value.s, .int .i64 X.steps] 43 (0, 0))).setCell ⟨(w.heap.size + 1), 0, none⟩ (.slice A0 X.frames.length c0)).setCell ⟨(w.heap.size + 1), 1, none⟩ (.slice A1 X.heap.length c1)).setCell ⟨(w.heap.size + 1), 2, none⟩ (.int .i64 X.made)).setCell ⟨(w.heap.size + 1), 3, none⟩ (.slice A3 X.out.length c3)).setCell ⟨(w.heap.size + 1), 4, none⟩ (.int .i64 X.status)).setCell ⟨(w.heap.size + 1), 5, none⟩ (.int .i64 X.trap)).setCell ⟨(w.heap.size + 1), 6, none⟩ (.int .i64 X.value.k)).setCell ⟨(w.heap.size + 1), 7, none⟩ (.int .i64 X.value.n)).setCell ⟨(w.heap.size + 1), 8, none⟩ (.string X.value.s)).setCell ⟨(w.heap.size + 1), 9, none⟩ (.int .i64 X.steps)).setCell ⟨(w.heap.size + 1), 10, none⟩ (.slice none 0 0)).setCell ⟨(w.heap.size + 1), 11, none⟩ (.slice none 0 0)).setCell ⟨(w.heap.size + 1), 12, none⟩ (.slice none 0 0)).setCell ⟨(w.heap.size + 1), 13, none⟩ (.int .i64 0)).setCell ⟨(w.heap.size + 1), 14, none⟩ (.int .i64 0)) := St.fill [.slice A0 X.frames.length c0, .slice A1 X.heap.length c1, .int .i64 X.made, .slice A3 X.out.length c3, .int .i64 X.status, .int .i64 X.trap, .int .i64 X.value.k, .int .i64 X.value.n, .string X.value.s, .int .i64 X.steps, .slice none 0 0, .slice none 0 0, .slice none 0 0, .int .i64 0, .int .i64 0] 4 hT rfl 0
  have y0 := hE.cell 4 rfl 0
  have y1 := hE.cell 4 rfl 1
  have y2 := hE.cell 4 rfl 2
  have y3 := hE.cell 4 rfl 3
  have y4 := hE.cell 4 rfl 4
  have y5 := hE.cell 4 rfl 5
  have y6 := hE.cell 4 rfl 6
  have y7 := hE.cell 4 rfl 7
  have y8 := hE.cell 4 rfl 8
  have y9 := hE.cell 4 rfl 9
  have y10 := hE.cell 4 rfl 10
  have y11 := hE.cell 4 rfl 11
  have y12 := hE.cell 4 rfl 12
  have y13 := hE.cell 4 rfl 13
  have y14 := hE.cell 4 rfl 14
  have HE := Lib.hid hE
  clear hT hE
  go_wp2
  refine bodyPost_ret (v := .tuple #[.agg #[.slice A0 X.frames.length c0, .slice A1 X.heap.length c1, .int .i64 X.made, .slice A3 X.out.length c3, .int .i64 X.status, .int .i64 X.trap, .int .i64 X.value.k, .int .i64 X.value.n, .string X.value.s, .int .i64 X.steps, .slice none 0 0, .slice none 0 0, .slice none 0 0, .int .i64 0, .int .i64 0], .bool (startB t l args)]) (by simp [results, Tryz.results44, go_sem, y0, y1, y2, y3, y4, y5, y6, y7, y8, y9, y10, y11, y12, y13, y14]) rfl ?_
  have hN := ((HE.out.drop.nil_ kFail 232).nil_ kFast 229).nil_ kSite 146
  exact ⟨_, _, _, .slice none 0 0, .slice none 0 0, .slice none 0 0, F0, F1, F3, [], [], [], rfl, St.pre (L1 := [_, _, _, _, _, _]) (L2 := [_, _]) (hN.perm ((List.perm_append_comm (l₁ := [_, _, _]) (l₂ := [_, _, _])).append_right [_, _]))⟩
set_option maxHeartbeats 4000000 in
set_option maxRecDepth 100000 in
theorem newTier3 (A B D : Option Addr) (c d e0 : Nat) (t : List ByteArray) (l : List DFunc) (args : List DValue) (w : World) (h : HasMod A B t l w) (hr : kValue.Row w D args.length args) (hm : args.length ≤ 1048576 ∧ ∀ y ∈ args, MValue y) {Y : DTier} (hY : newTierV t l args = Y) :
    Calls Tryz.prog 42 #[.agg #[.slice A t.length c, .slice B l.length d], .slice D args.length e0] w (fun en w' => ∃ (v0 v1 v3 v10 v11 v12 : Value) (F0 F1 F3 F10 F11 F12 : List Nat), en = .returned (.tuple #[.agg #[v0, v1, .int .i64 Y.vm.made, v3, .int .i64 Y.vm.status, .int .i64 Y.vm.trap, .int .i64 Y.vm.value.k, .int .i64 Y.vm.value.n, .string Y.vm.value.s, .int .i64 Y.vm.steps, v10, v11, v12, .int .i64 Y.guards, .int .i64 Y.entered], .bool (startB t l args)]) ∧ St w [Res.own kFrame 107 v0 Y.vm.frames F0, Res.own kRec 110 v1 Y.vm.heap F1, Res.own Knd.str 9 v3 Y.vm.out F3, Res.own kSite 146 v10 Y.sites F10, Res.own kFast 229 v11 Y.codes F11, Res.own kFail 232 v12 Y.fails F12] w') := by
  have hS := ((St.start w).made (.cells #[.slice A t.length c, .slice B l.length d] 37 (0, 0))).madeAt (.cells #[.slice none 0 0, .slice none 0 0, .int .i64 0, .slice none 0 0, .int .i64 0, .int .i64 0, .int .i64 0, .int .i64 0, .string (⟨#[]⟩ : ByteArray), .int .i64 0, .slice none 0 0, .slice none 0 0, .slice none 0 0, .int .i64 0, .int .i64 0] 75 (0, 0)) (w.heap.size + 1) (by simp)
  obtain ⟨X, hX⟩ : ∃ X, startV t l args = X := ⟨_, rfl⟩
  have eY : Y = ⟨X, [], [], [], 0, 0⟩ := by rw [← hY, ← hX]; rfl
  subst eY
  have x_m := hS.cell 1 rfl
  cases hb : startB t l args
  · have HB := Lib.hid hb
    clear hb
    have e0 : X = zVm := by rw [← hX, startV_no HB.out]
    subst e0
    have HX := Lib.hid hX
    clear hX
    go_enter Tryz.func42, Tryz.ntmps42
    go_wp2_with fail
    refine (start3 A B D c d e0 t l args _ (h.below hS.bel) (hr.below hS.bel) hm HX.out).mono ?_
    rintro e w3 ⟨v0, v1, v3, F0, F1, F3, rfl, hS3⟩
    rw [HB.out]
    obtain ⟨A0, c0, rfl, _, _⟩ := hS3.row 0 rfl
    obtain ⟨A1, c1, rfl, _, _⟩ := hS3.row 1 rfl
    obtain ⟨A3, c3, rfl, _, _⟩ := hS3.row 2 rfl
    have hJ := hS.join hS3
    obtain ⟨g8, hg8⟩ : ∃ g8, w3.heap.size = g8 := ⟨_, rfl⟩
    have hT := hJ.madeAt (.cells #[.slice A0 zVm.frames.length c0, .slice A1 zVm.heap.length c1, .int .i64 zVm.made, .slice A3 zVm.out.length c3, .int .i64 zVm.status, .int .i64 zVm.trap, .int .i64 zVm.value.k, .int .i64 zVm.value.n, .string zVm.value.s, .int .i64 zVm.steps] 43 (0, 0)) g8 hg8
    clear hS hS3 hJ x_m
    have x_v := hT.cell 0 rfl
    have x_t := hT.cell 4 rfl
    have f_t := hT.free 4 rfl
    have hE : St w [Res.box g8 (.cells #[.slice A0 zVm.frames.length c0, .slice A1 zVm.heap.length c1, .int .i64 zVm.made, .slice A3 zVm.out.length c3, .int .i64 zVm.status, .int .i64 zVm.trap, .int .i64 zVm.value.k, .int .i64 zVm.value.n, .string zVm.value.s, .int .i64 zVm.steps] 43 (0, 0)), Res.own kFrame 107 (.slice A0 zVm.frames.length c0) zVm.frames F0, Res.own kRec 110 (.slice A1 zVm.heap.length c1) zVm.heap F1, Res.own Knd.str 9 (.slice A3 zVm.out.length c3) zVm.out F3, Res.box (w.heap.size + 1) (.cells #[.slice none 0 0, .slice none 0 0, .int .i64 0, .slice none 0 0, .int .i64 0, .int .i64 0, .int .i64 0, .int .i64 0, .string (⟨#[]⟩ : ByteArray), .int .i64 0, .slice none 0 0, .slice none 0 0, .slice none 0 0, .int .i64 0, .int .i64 0] 75 (0, 0)), Res.box w.heap.size (.cells #[.slice A t.length c, .slice B l.length d] 37 (0, 0))] ((((((((((((((((w3.alloc (.cells #[.slice A0 zVm.frames.length c0, .slice A1 zVm.heap.length c1, .int .i64 zVm.made, .slice A3 zVm.out.length c3, .int .i64 zVm.status, .int .i64 zVm.trap, .int .i64 zVm.value.k, .int .i64 zVm.value.n, .string zVm.value.s, .int .i64 zVm.steps] 43 (0, 0))).setCell ⟨(w.heap.size + 1), 0, none⟩ (.slice none 0 0)).setCell ⟨(w.heap.size + 1), 1, none⟩ (.slice none 0 0)).setCell ⟨(w.heap.size + 1), 2, none⟩ (.int .i64 0)).setCell ⟨(w.heap.size + 1), 3, none⟩ (.slice none 0 0)).setCell ⟨(w.heap.size + 1), 4, none⟩ (.int .i64 0)).setCell ⟨(w.heap.size + 1), 5, none⟩ (.int .i64 0)).setCell ⟨(w.heap.size + 1), 6, none⟩ (.int .i64 0)).setCell ⟨(w.heap.size + 1), 7, none⟩ (.int .i64 0)).setCell ⟨(w.heap.size + 1), 8, none⟩ (.string (⟨#[]⟩ : ByteArray))).setCell ⟨(w.heap.size + 1), 9, none⟩ (.int .i64 0)).setCell ⟨(w.heap.size + 1), 10, none⟩ (.slice none 0 0)).setCell ⟨(w.heap.size + 1), 11, none⟩ (.slice none 0 0)).setCell ⟨(w.heap.size + 1), 12, none⟩ (.slice none 0 0)).setCell ⟨(w.heap.size + 1), 13, none⟩ (.int .i64 0)).setCell ⟨(w.heap.size + 1), 14, none⟩ (.int .i64 0)) := St.fill [.slice none 0 0, .slice none 0 0, .int .i64 0, .slice none 0 0, .int .i64 0, .int .i64 0, .int .i64 0, .int .i64 0, .string (⟨#[]⟩ : ByteArray), .int .i64 0, .slice none 0 0, .slice none 0 0, .slice none 0 0, .int .i64 0, .int .i64 0] 4 hT rfl 0
    have y0 := hE.cell 4 rfl 0
    have y1 := hE.cell 4 rfl 1
    have y2 := hE.cell 4 rfl 2
    have y3 := hE.cell 4 rfl 3
    have y4 := hE.cell 4 rfl 4
    have y5 := hE.cell 4 rfl 5
    have y6 := hE.cell 4 rfl 6
    have y7 := hE.cell 4 rfl 7
    have y8 := hE.cell 4 rfl 8
    have y9 := hE.cell 4 rfl 9
    have y10 := hE.cell 4 rfl 10
    have y11 := hE.cell 4 rfl 11
    have y12 := hE.cell 4 rfl 12
    have y13 := hE.cell 4 rfl 13
    have y14 := hE.cell 4 rfl 14
    have HE := Lib.hid hE
    clear hT hE
    go_wp2
    refine bodyPost_ret (v := .tuple #[.agg #[.slice none 0 0, .slice none 0 0, .int .i64 0, .slice none 0 0, .int .i64 0, .int .i64 0, .int .i64 0, .int .i64 0, .string (⟨#[]⟩ : ByteArray), .int .i64 0, .slice none 0 0, .slice none 0 0, .slice none 0 0, .int .i64 0, .int .i64 0], .bool false]) (by simp [results, Tryz.results42, go_sem, y0, y1, y2, y3, y4, y5, y6, y7, y8, y9, y10, y11, y12, y13, y14]) rfl ?_
    have hN := (((((HE.out.nil_ kFail 232).nil_ kFast 229).nil_ kSite 146).nil_ Knd.str 9).nil_ kRec 110).nil_ kFrame 107
    exact ⟨.slice none 0 0, .slice none 0 0, .slice none 0 0, .slice none 0 0, .slice none 0 0, .slice none 0 0, [], [], [], [], [], [], rfl, St.pre (L1 := [_, _, _, _, _, _]) (L2 := [_, _, _, _, _, _]) hN⟩
  · have HB := Lib.hid hb
    clear hb
    have HX := Lib.hid hX
    clear hX
    go_enter Tryz.func42, Tryz.ntmps42
    go_wp2_with fail
    refine (start3 A B D c d e0 t l args _ (h.below hS.bel) (hr.below hS.bel) hm HX.out).mono ?_
    rintro e w3 ⟨v0, v1, v3, F0, F1, F3, rfl, hS3⟩
    rw [HB.out]
    obtain ⟨A0, c0, rfl, _, _⟩ := hS3.row 0 rfl
    obtain ⟨A1, c1, rfl, _, _⟩ := hS3.row 1 rfl
    obtain ⟨A3, c3, rfl, _, _⟩ := hS3.row 2 rfl
    have hJ := hS.join hS3
    obtain ⟨g8, hg8⟩ : ∃ g8, w3.heap.size = g8 := ⟨_, rfl⟩
    have hT := hJ.madeAt (.cells #[.slice A0 X.frames.length c0, .slice A1 X.heap.length c1, .int .i64 X.made, .slice A3 X.out.length c3, .int .i64 X.status, .int .i64 X.trap, .int .i64 X.value.k, .int .i64 X.value.n, .string X.value.s, .int .i64 X.steps] 43 (0, 0)) g8 hg8
    clear hS hS3 hJ x_m
    have x_v := hT.cell 0 rfl
    have x_t := hT.cell 4 rfl
    have f_t := hT.free 4 rfl
    have hE : St w [Res.box g8 (.cells #[.slice A0 X.frames.length c0, .slice A1 X.heap.length c1, .int .i64 X.made, .slice A3 X.out.length c3, .int .i64 X.status, .int .i64 X.trap, .int .i64 X.value.k, .int .i64 X.value.n, .string X.value.s, .int .i64 X.steps] 43 (0, 0)), Res.own kFrame 107 (.slice A0 X.frames.length c0) X.frames F0, Res.own kRec 110 (.slice A1 X.heap.length c1) X.heap F1, Res.own Knd.str 9 (.slice A3 X.out.length c3) X.out F3, Res.box (w.heap.size + 1) (.cells #[.slice A0 X.frames.length c0, .slice A1 X.heap.length c1, .int .i64 X.made, .slice A3 X.out.length c3, .int .i64 X.status, .int .i64 X.trap, .int .i64 X.value.k, .int .i64 X.value.n, .string X.value.s, .int .i64 X.steps, .slice none 0 0, .slice none 0 0, .slice none 0 0, .int .i64 0, .int .i64 0] 75 (0, 0)), Res.box w.heap.size (.cells #[.slice A t.length c, .slice B l.length d] 37 (0, 0))] ((((((((((((((((w3.alloc (.cells #[.slice A0 X.frames.length c0, .slice A1 X.heap.length c1, .int .i64 X.made, .slice A3 X.out.length c3, .int .i64 X.status, .int .i64 X.trap, .int .i64 X.value.k, .int .i64 X.value.n, .string X.value.s, .int .i64 X.steps] 43 (0, 0))).setCell ⟨(w.heap.size + 1), 0, none⟩ (.slice A0 X.frames.length c0)).setCell ⟨(w.heap.size + 1), 1, none⟩ (.slice A1 X.heap.length c1)).setCell ⟨(w.heap.size + 1), 2, none⟩ (.int .i64 X.made)).setCell ⟨(w.heap.size + 1), 3, none⟩ (.slice A3 X.out.length c3)).setCell ⟨(w.heap.size + 1), 4, none⟩ (.int .i64 X.status)).setCell ⟨(w.heap.size + 1), 5, none⟩ (.int .i64 X.trap)).setCell ⟨(w.heap.size + 1), 6, none⟩ (.int .i64 X.value.k)).setCell ⟨(w.heap.size + 1), 7, none⟩ (.int .i64 X.value.n)).setCell ⟨(w.heap.size + 1), 8, none⟩ (.string X.value.s)).setCell ⟨(w.heap.size + 1), 9, none⟩ (.int .i64 X.steps)).setCell ⟨(w.heap.size + 1), 10, none⟩ (.slice none 0 0)).setCell ⟨(w.heap.size + 1), 11, none⟩ (.slice none 0 0)).setCell ⟨(w.heap.size + 1), 12, none⟩ (.slice none 0 0)).setCell ⟨(w.heap.size + 1), 13, none⟩ (.int .i64 0)).setCell ⟨(w.heap.size + 1), 14, none⟩ (.int .i64 0)) := St.fill [.slice A0 X.frames.length c0, .slice A1 X.heap.length c1, .int .i64 X.made, .slice A3 X.out.length c3, .int .i64 X.status, .int .i64 X.trap, .int .i64 X.value.k, .int .i64 X.value.n, .string X.value.s, .int .i64 X.steps, .slice none 0 0, .slice none 0 0, .slice none 0 0, .int .i64 0, .int .i64 0] 4 hT rfl 0
    have y0 := hE.cell 4 rfl 0
    have y1 := hE.cell 4 rfl 1
    have y2 := hE.cell 4 rfl 2
    have y3 := hE.cell 4 rfl 3
    have y4 := hE.cell 4 rfl 4
    have y5 := hE.cell 4 rfl 5
    have y6 := hE.cell 4 rfl 6
    have y7 := hE.cell 4 rfl 7
    have y8 := hE.cell 4 rfl 8
    have y9 := hE.cell 4 rfl 9
    have y10 := hE.cell 4 rfl 10
    have y11 := hE.cell 4 rfl 11
    have y12 := hE.cell 4 rfl 12
    have y13 := hE.cell 4 rfl 13
    have y14 := hE.cell 4 rfl 14
    have HE := Lib.hid hE
    clear hT hE
    go_wp2
    refine bodyPost_ret (v := .tuple #[.agg #[.slice A0 X.frames.length c0, .slice A1 X.heap.length c1, .int .i64 X.made, .slice A3 X.out.length c3, .int .i64 X.status, .int .i64 X.trap, .int .i64 X.value.k, .int .i64 X.value.n, .string X.value.s, .int .i64 X.steps, .slice none 0 0, .slice none 0 0, .slice none 0 0, .int .i64 0, .int .i64 0], .bool true]) (by simp [results, Tryz.results42, go_sem, y0, y1, y2, y3, y4, y5, y6, y7, y8, y9, y10, y11, y12, y13, y14]) rfl ?_
    have hN := ((HE.out.drop.nil_ kFail 232).nil_ kFast 229).nil_ kSite 146
    exact ⟨_, _, _, .slice none 0 0, .slice none 0 0, .slice none 0 0, F0, F1, F3, [], [], [], rfl, St.pre (L1 := [_, _, _, _, _, _]) (L2 := [_, _]) (hN.perm ((List.perm_append_comm (l₁ := [_, _, _]) (l₂ := [_, _, _])).append_right [_, _]))⟩
end Go.Proofs.YticlknijmnddeaaGreat.Dat
