/- Proved: the Go law 'trunnionlaw9.CpuTraps' returns true for every input and leaves its arguments as they were (the given statement Rows.CpuTrapsSaid). No conditions. -/
import Derived.Test.YtodkenbkogfefaaRows
import Derived.Test.YtodkenbkogfefaaOpenSt
import Derived.Test.YtodkenbkogfefaaEnter
import Derived.Test.YtodkenbkogfefaaRefSt
import Derived.Test.YtodkenbkogfefaaWipe
import Derived.Test.YtodkenbkogfefaaStay
import Derived.Test.YtodkenbkogfefaaLent
import Derived.Test.YtodkenbkogfefaaSame
import Derived.Test.YtodkenbkogfefaaCpuAcc
import Derived.WalkKit
import Derived.ProofKit
import Derived.OpenShut
import Derived.ShutString
import Derived.ChangeOld
import Derived.Below
namespace Go.Proofs.Ytodkenbkogfefaa.cpuTraps
open Go.ChangeShapes Go.WideShapes Go.ChangeAt Go.RowKit
set_option linter.unusedVariables false

theorem own : ownKnob Try.prog.godebug = none := by kernel_rfl
theorem laidOut : laidOutB Try.prog = true := by kernel_rfl

theorem keep2 {X W w' : World} {b0 b1 : Nat} {v00 v01 v02 v03 v04 v05 v10 v11 v12 v13 v14 v15 : Value} (hS : W.cell? ⟨b0, 0, none⟩ = some v00 ∧ W.cell? ⟨b0, 1, none⟩ = some v01 ∧ W.cell? ⟨b0, 2, none⟩ = some v02 ∧ W.cell? ⟨b0, 3, none⟩ = some v03 ∧ W.cell? ⟨b0, 4, none⟩ = some v04 ∧ W.cell? ⟨b0, 5, none⟩ = some v05 ∧ W.cell? ⟨b1, 0, none⟩ = some v10 ∧ W.cell? ⟨b1, 1, none⟩ = some v11 ∧ W.cell? ⟨b1, 2, none⟩ = some v12 ∧ W.cell? ⟨b1, 3, none⟩ = some v13 ∧ W.cell? ⟨b1, 4, none⟩ = some v14 ∧ W.cell? ⟨b1, 5, none⟩ = some v15 ∧ Below X.heap.size X W) (hb : Below W.heap.size W w') : w'.cell? ⟨b0, 0, none⟩ = some v00 ∧ w'.cell? ⟨b0, 1, none⟩ = some v01 ∧ w'.cell? ⟨b0, 2, none⟩ = some v02 ∧ w'.cell? ⟨b0, 3, none⟩ = some v03 ∧ w'.cell? ⟨b0, 4, none⟩ = some v04 ∧ w'.cell? ⟨b0, 5, none⟩ = some v05 ∧ w'.cell? ⟨b1, 0, none⟩ = some v10 ∧ w'.cell? ⟨b1, 1, none⟩ = some v11 ∧ w'.cell? ⟨b1, 2, none⟩ = some v12 ∧ w'.cell? ⟨b1, 3, none⟩ = some v13 ∧ w'.cell? ⟨b1, 4, none⟩ = some v14 ∧ w'.cell? ⟨b1, 5, none⟩ = some v15 ∧ Below X.heap.size X w' := by
  obtain ⟨h00, h01, h02, h03, h04, h05, h10, h11, h12, h13, h14, h15, h⟩ := hS
  have hc := cell_below hb
  exact ⟨hc _ _ h00, hc _ _ h01, hc _ _ h02, hc _ _ h03, hc _ _ h04, hc _ _ h05, hc _ _ h10, hc _ _ h11, hc _ _ h12, hc _ _ h13, hc _ _ h14, hc _ _ h15, h.trans (hb.mono h.size)⟩
theorem keep20 {X : World} {b0 b1 t : Nat} {v00 v01 v02 v03 v04 v05 v10 v11 v12 v13 v14 v15 : Value} (k0 : Box X b0 t v00 v01 v02 v03 v04 v05) (k1 : Box X b1 t v10 v11 v12 v13 v14 v15) : X.drew.cell? ⟨b0, 0, none⟩ = some v00 ∧ X.drew.cell? ⟨b0, 1, none⟩ = some v01 ∧ X.drew.cell? ⟨b0, 2, none⟩ = some v02 ∧ X.drew.cell? ⟨b0, 3, none⟩ = some v03 ∧ X.drew.cell? ⟨b0, 4, none⟩ = some v04 ∧ X.drew.cell? ⟨b0, 5, none⟩ = some v05 ∧ X.drew.cell? ⟨b1, 0, none⟩ = some v10 ∧ X.drew.cell? ⟨b1, 1, none⟩ = some v11 ∧ X.drew.cell? ⟨b1, 2, none⟩ = some v12 ∧ X.drew.cell? ⟨b1, 3, none⟩ = some v13 ∧ X.drew.cell? ⟨b1, 4, none⟩ = some v14 ∧ X.drew.cell? ⟨b1, 5, none⟩ = some v15 ∧ Below X.heap.size X X.drew := by
  obtain ⟨h00, h01, h02, h03, h04, h05, _⟩ := k0.cells
  obtain ⟨h10, h11, h12, h13, h14, h15, _⟩ := k1.cells
  exact ⟨h00, h01, h02, h03, h04, h05, h10, h11, h12, h13, h14, h15, (Below.refl _ _).drew⟩
theorem keep3 {X W w' : World} {b0 b1 b2 : Nat} {v00 v01 v02 v03 v04 v05 v10 v11 v12 v13 v14 v15 v20 v21 v22 v23 v24 v25 : Value} (hS : W.cell? ⟨b0, 0, none⟩ = some v00 ∧ W.cell? ⟨b0, 1, none⟩ = some v01 ∧ W.cell? ⟨b0, 2, none⟩ = some v02 ∧ W.cell? ⟨b0, 3, none⟩ = some v03 ∧ W.cell? ⟨b0, 4, none⟩ = some v04 ∧ W.cell? ⟨b0, 5, none⟩ = some v05 ∧ W.cell? ⟨b1, 0, none⟩ = some v10 ∧ W.cell? ⟨b1, 1, none⟩ = some v11 ∧ W.cell? ⟨b1, 2, none⟩ = some v12 ∧ W.cell? ⟨b1, 3, none⟩ = some v13 ∧ W.cell? ⟨b1, 4, none⟩ = some v14 ∧ W.cell? ⟨b1, 5, none⟩ = some v15 ∧ W.cell? ⟨b2, 0, none⟩ = some v20 ∧ W.cell? ⟨b2, 1, none⟩ = some v21 ∧ W.cell? ⟨b2, 2, none⟩ = some v22 ∧ W.cell? ⟨b2, 3, none⟩ = some v23 ∧ W.cell? ⟨b2, 4, none⟩ = some v24 ∧ W.cell? ⟨b2, 5, none⟩ = some v25 ∧ Below X.heap.size X W) (hb : Below W.heap.size W w') : w'.cell? ⟨b0, 0, none⟩ = some v00 ∧ w'.cell? ⟨b0, 1, none⟩ = some v01 ∧ w'.cell? ⟨b0, 2, none⟩ = some v02 ∧ w'.cell? ⟨b0, 3, none⟩ = some v03 ∧ w'.cell? ⟨b0, 4, none⟩ = some v04 ∧ w'.cell? ⟨b0, 5, none⟩ = some v05 ∧ w'.cell? ⟨b1, 0, none⟩ = some v10 ∧ w'.cell? ⟨b1, 1, none⟩ = some v11 ∧ w'.cell? ⟨b1, 2, none⟩ = some v12 ∧ w'.cell? ⟨b1, 3, none⟩ = some v13 ∧ w'.cell? ⟨b1, 4, none⟩ = some v14 ∧ w'.cell? ⟨b1, 5, none⟩ = some v15 ∧ w'.cell? ⟨b2, 0, none⟩ = some v20 ∧ w'.cell? ⟨b2, 1, none⟩ = some v21 ∧ w'.cell? ⟨b2, 2, none⟩ = some v22 ∧ w'.cell? ⟨b2, 3, none⟩ = some v23 ∧ w'.cell? ⟨b2, 4, none⟩ = some v24 ∧ w'.cell? ⟨b2, 5, none⟩ = some v25 ∧ Below X.heap.size X w' := by
  obtain ⟨h00, h01, h02, h03, h04, h05, h10, h11, h12, h13, h14, h15, h20, h21, h22, h23, h24, h25, h⟩ := hS
  have hc := cell_below hb
  exact ⟨hc _ _ h00, hc _ _ h01, hc _ _ h02, hc _ _ h03, hc _ _ h04, hc _ _ h05, hc _ _ h10, hc _ _ h11, hc _ _ h12, hc _ _ h13, hc _ _ h14, hc _ _ h15, hc _ _ h20, hc _ _ h21, hc _ _ h22, hc _ _ h23, hc _ _ h24, hc _ _ h25, h.trans (hb.mono h.size)⟩
theorem keep30 {X : World} {b0 b1 b2 t : Nat} {v00 v01 v02 v03 v04 v05 v10 v11 v12 v13 v14 v15 v20 v21 v22 v23 v24 v25 : Value} (k0 : Box X b0 t v00 v01 v02 v03 v04 v05) (k1 : Box X b1 t v10 v11 v12 v13 v14 v15) (k2 : Box X b2 t v20 v21 v22 v23 v24 v25) : X.drew.cell? ⟨b0, 0, none⟩ = some v00 ∧ X.drew.cell? ⟨b0, 1, none⟩ = some v01 ∧ X.drew.cell? ⟨b0, 2, none⟩ = some v02 ∧ X.drew.cell? ⟨b0, 3, none⟩ = some v03 ∧ X.drew.cell? ⟨b0, 4, none⟩ = some v04 ∧ X.drew.cell? ⟨b0, 5, none⟩ = some v05 ∧ X.drew.cell? ⟨b1, 0, none⟩ = some v10 ∧ X.drew.cell? ⟨b1, 1, none⟩ = some v11 ∧ X.drew.cell? ⟨b1, 2, none⟩ = some v12 ∧ X.drew.cell? ⟨b1, 3, none⟩ = some v13 ∧ X.drew.cell? ⟨b1, 4, none⟩ = some v14 ∧ X.drew.cell? ⟨b1, 5, none⟩ = some v15 ∧ X.drew.cell? ⟨b2, 0, none⟩ = some v20 ∧ X.drew.cell? ⟨b2, 1, none⟩ = some v21 ∧ X.drew.cell? ⟨b2, 2, none⟩ = some v22 ∧ X.drew.cell? ⟨b2, 3, none⟩ = some v23 ∧ X.drew.cell? ⟨b2, 4, none⟩ = some v24 ∧ X.drew.cell? ⟨b2, 5, none⟩ = some v25 ∧ Below X.heap.size X X.drew := by
  obtain ⟨h00, h01, h02, h03, h04, h05, _⟩ := k0.cells
  obtain ⟨h10, h11, h12, h13, h14, h15, _⟩ := k1.cells
  obtain ⟨h20, h21, h22, h23, h24, h25, _⟩ := k2.cells
  exact ⟨h00, h01, h02, h03, h04, h05, h10, h11, h12, h13, h14, h15, h20, h21, h22, h23, h24, h25, (Below.refl _ _).drew⟩
theorem pick2 {X W : World} {b0 b1 : Nat} {v00 v01 v02 v03 v04 v05 v10 v11 v12 v13 v14 v15 : Value} (hS : W.cell? ⟨b0, 0, none⟩ = some v00 ∧ W.cell? ⟨b0, 1, none⟩ = some v01 ∧ W.cell? ⟨b0, 2, none⟩ = some v02 ∧ W.cell? ⟨b0, 3, none⟩ = some v03 ∧ W.cell? ⟨b0, 4, none⟩ = some v04 ∧ W.cell? ⟨b0, 5, none⟩ = some v05 ∧ W.cell? ⟨b1, 0, none⟩ = some v10 ∧ W.cell? ⟨b1, 1, none⟩ = some v11 ∧ W.cell? ⟨b1, 2, none⟩ = some v12 ∧ W.cell? ⟨b1, 3, none⟩ = some v13 ∧ W.cell? ⟨b1, 4, none⟩ = some v14 ∧ W.cell? ⟨b1, 5, none⟩ = some v15 ∧ Below X.heap.size X W) : Below X.heap.size X W := hS.2.2.2.2.2.2.2.2.2.2.2.2
theorem pick3 {X W : World} {b0 b1 b2 : Nat} {v00 v01 v02 v03 v04 v05 v10 v11 v12 v13 v14 v15 v20 v21 v22 v23 v24 v25 : Value} (hS : W.cell? ⟨b0, 0, none⟩ = some v00 ∧ W.cell? ⟨b0, 1, none⟩ = some v01 ∧ W.cell? ⟨b0, 2, none⟩ = some v02 ∧ W.cell? ⟨b0, 3, none⟩ = some v03 ∧ W.cell? ⟨b0, 4, none⟩ = some v04 ∧ W.cell? ⟨b0, 5, none⟩ = some v05 ∧ W.cell? ⟨b1, 0, none⟩ = some v10 ∧ W.cell? ⟨b1, 1, none⟩ = some v11 ∧ W.cell? ⟨b1, 2, none⟩ = some v12 ∧ W.cell? ⟨b1, 3, none⟩ = some v13 ∧ W.cell? ⟨b1, 4, none⟩ = some v14 ∧ W.cell? ⟨b1, 5, none⟩ = some v15 ∧ W.cell? ⟨b2, 0, none⟩ = some v20 ∧ W.cell? ⟨b2, 1, none⟩ = some v21 ∧ W.cell? ⟨b2, 2, none⟩ = some v22 ∧ W.cell? ⟨b2, 3, none⟩ = some v23 ∧ W.cell? ⟨b2, 4, none⟩ = some v24 ∧ W.cell? ⟨b2, 5, none⟩ = some v25 ∧ Below X.heap.size X W) : Below X.heap.size X W := hS.2.2.2.2.2.2.2.2.2.2.2.2.2.2.2.2.2.2
theorem undr {w w' : World} (h : Below w.drew.heap.size w.drew w') : Below w.heap.size w w' := ⟨h.os, h.tape, h.output, h.size, h.block⟩
set_option maxRecDepth 100000 in
set_option maxHeartbeats 8000000 in
theorem core (w : World) (Ar Ac Ao : Option Addr) (nr cr nc cc no co : Nat) (pc : Int) (hl st : Bool) (fr fc : Nat → Int) (bo : List Int) (a1 a2 : Int)
    (hr : IntsAt w Ar nr fr) (hc : IntsAt w Ac nc fc) (ho : Src w Ao no (bys bo)) (hbig : bigB nr nc no = false) :
    Calls Try.prog 8 #[.agg #[.slice Ar nr cr, .int .i64 pc, .slice Ac nc cc, .bool hl, .bool st, .slice Ao no co], .int .i64 a1, .int .i64 a2] w fun e w' => e = .returned (.bool true) ∧ Below w.heap.size w w' := by
  obtain ⟨l1, l2, l3⟩ := big_no hbig
  obtain ⟨M, hM⟩ : ∃ M, max 11 nc = M := ⟨_, rfl⟩
  have hM2 : M ≤ 100000 := by omega
  have HM := Lib.hid hM
  have HBG := Lib.hid hbig
  have HR := Lib.hid hr
  have HC := Lib.hid hc
  have HO := Lib.hid ho
  clear hr hc ho hbig hM
  obtain ⟨W0, hW0⟩ : ∃ W0, (w.alloc (Obj.cells #[.slice Ar nr cr, .int .i64 pc, .slice Ac nc cc, .bool hl, .bool st, .slice Ao no co] 37)) = W0 := ⟨_, rfl⟩
  have b0 : Box W0 w.heap.size 37 (.slice Ar nr cr) (.int .i64 pc) (.slice Ac nc cc) (.bool hl) (.bool st) (.slice Ao no co) := by rw [← hW0]; exact Box.new _ _ _ _ _ _ _ _
  have hbw : Below w.heap.size w W0 := by rw [← hW0]; exact (Below.refl _ _).alloc (Nat.le_refl _) _
  have HW0 := Lib.hid hW0
  have HB0 := Lib.hid b0
  have HBW := Lib.hid hbw
  clear hW0 b0 hbw
  go_enter Try.func8, Try.ntmps8
  go_wp2_with fail
  rw [HW0.out]
  refine (alive9 _).mono ?_
  rintro e w1 ⟨rfl, hb1⟩
  have HE1 := Lib.hid hb1
  clear hb1
  obtain ⟨g0, g1, g2, g3, g4, g5, _⟩ := (HB0.out.below HE1.out HB0.out.lt).cells
  go_wp2_with fail
  refine (big_any _ _ _ _ _ _ _ _ _ _ _ _ _).mono ?_
  rintro e w2 ⟨rfl, hb2⟩
  rw [HBG.out]
  have HE2 := Lib.hid (btrans HE1.out hb2)
  clear hb2 HE1 g0 g1 g2 g3 g4 g5
  obtain ⟨g0, g1, g2, g3, g4, g5, _⟩ := (HB0.out.below HE2.out HB0.out.lt).cells
  go_wp2_with fail
  refine (lent_any _ _ _ _ _ _ _ _ _ _ _ _ _ fr fc bo ((HR.out.below HBW.out).below HE2.out) (by omega) ((HC.out.below HBW.out).below HE2.out) (by omega) ((HO.out.below HBW.out).below HE2.out) (by omega)).mono ?_
  rintro e w3 ⟨ar3, cr3, ac3, cc3, ao3, co3, rfl, lR, lC, lO, hb3⟩
  have HE3 := Lib.hid (btrans HE2.out hb3)
  clear hb3 HE2 g0 g1 g2 g3 g4 g5
  obtain ⟨W4, hW4⟩ : ∃ W4, (w3.alloc (Obj.cells #[.slice ar3 nr cr3, .int .i64 pc, .slice ac3 nc cc3, .bool hl, .bool st, .slice ao3 no co3] 37)) = W4 := ⟨_, rfl⟩
  have b4 : Box W4 w3.heap.size 37 (.slice ar3 nr cr3) (.int .i64 pc) (.slice ac3 nc cc3) (.bool hl) (.bool st) (.slice ao3 no co3) := by rw [← hW4]; exact Box.new _ _ _ _ _ _ _ _
  have hb4 : Below w3.heap.size w3 W4 := by rw [← hW4]; exact (Below.refl _ _).alloc (Nat.le_refl _) _
  have HE4 := Lib.hid (btrans HE3.out hb4)
  have HLR := Lib.hid (lR.below hb4)
  have HLC := Lib.hid (lC.below hb4)
  have HLO := Lib.hid (lO.below hb4)
  have NR : Hid (ar3 = none → cr3 = 0) := Lib.hid (by obtain ⟨_, _, e, _⟩ := lR.form; intro h; rw [h] at e; cases e)
  have NO : Hid (ao3 = none → co3 = 0) := Lib.hid (by obtain ⟨_, _, e, _⟩ := lO.form; intro h; rw [h] at e; cases e)
  have IR := Lib.hid (src_ints (HLR.out.src (csL_one _ _)))
  have IC := Lib.hid (src_ints (HLC.out.src (csL_one _ _)))
  have IO := Lib.hid (HLO.out.src (bys_one _))
  have HB4 := Lib.hid b4
  have HW4 := Lib.hid hW4
  clear lR lC lO b4 hb4 hW4
  go_wp2_with fail
  rw [HW4.out]
  refine (enterSt_any _ _ _ _ _ _ _ _ _ _ _ _ _ fr fc bo _ _ IR.out NR.out (by omega) IC.out (by omega) IO.out NO.out (by omega)).mono ?_
  rintro e w5 ⟨c5, ar5, cr5, ac5, cc5, ao5, co5, rfl, oR5, oC5, oO5, hb5⟩
  rw [HM.out] at oC5 ⊢
  obtain ⟨W6, hW6⟩ : ∃ W6, (w5.alloc (Obj.cells #[.slice ar5 nr cr5, .int .i64 (W (exC fc nc 1)), .slice ac5 M cc5, .bool hl, .bool st, .slice ao5 no co5] 37)) = W6 := ⟨_, rfl⟩
  have b6 : Box W6 w5.heap.size 37 (.slice ar5 nr cr5) (.int .i64 (W (exC fc nc 1))) (.slice ac5 M cc5) (.bool hl) (.bool st) (.slice ao5 no co5) := by rw [← hW6]; exact Box.new _ _ _ _ _ _ _ _
  have hb6 : Below w5.heap.size w5 W6 := by rw [← hW6]; exact (Below.refl _ _).alloc (Nat.le_refl _) _
  have HE46 := Lib.hid (btrans hb5 hb6)
  have HE6 := Lib.hid (btrans HE4.out HE46.out)
  have OR5 := Lib.hid (oR5.below hb6)
  have OC5 := Lib.hid (oC5.below hb6)
  have OO5 := Lib.hid (oO5.below hb6)
  have HB4' := Lib.hid (HB4.out.below HE46.out HB4.out.lt)
  have HB6 := Lib.hid b6
  have HW6 := Lib.hid hW6
  clear oR5 oC5 oO5 hb5 hb6 b6 hW6 HE4
  go_upto_region 7 with fail
  rw [HW6.out]
  obtain ⟨h0, h1, h2, h3, h4, h5, _⟩ := HB4'.out.cells
  go_wp2_with fail
  refine (leaveSt_any _ _ _ _ _ _ _ _ _ _ _ _ _ fr fc bo (IR.out.below HE46.out) NR.out (by omega) (IC.out.below HE46.out) (by omega) (IO.out.below HE46.out) NO.out (by omega)).mono ?_
  rintro e w7 ⟨c7, ar7, cr7, ac7, cc7, ao7, co7, rfl, oR7, oC7, oO7, hb7⟩
  rw [HM.out] at oC7 ⊢
  obtain ⟨W8, hW8⟩ : ∃ W8, (w7.alloc (Obj.cells #[.slice ar7 nr cr7, .int .i64 (W (exC fc nc 2)), .slice ac7 M cc7, .bool hl, .bool st, .slice ao7 no co7] 37)) = W8 := ⟨_, rfl⟩
  have b8 : Box W8 w7.heap.size 37 (.slice ar7 nr cr7) (.int .i64 (W (exC fc nc 2))) (.slice ac7 M cc7) (.bool hl) (.bool st) (.slice ao7 no co7) := by rw [← hW8]; exact Box.new _ _ _ _ _ _ _ _
  have hb8 : Below w7.heap.size w7 W8 := by rw [← hW8]; exact (Below.refl _ _).alloc (Nat.le_refl _) _
  have HE68 := Lib.hid (btrans hb7 hb8)
  have HE8 := Lib.hid (btrans HE6.out HE68.out)
  have OR7 := Lib.hid (oR7.below hb8)
  have OC7 := Lib.hid (oC7.below hb8)
  have OO7 := Lib.hid (oO7.below hb8)
  have HB8 := Lib.hid b8
  have HW8 := Lib.hid hW8
  clear oR7 oC7 oO7 hb7 hb8 b8 hW8 h0 h1 h2 h3 h4 h5
  go_wp2_with fail
  rw [HW8.out]
  have HS8 := Lib.hid (keep20 HB8.out (HB0.out.below HE8.out HB0.out.lt))
  have HW8w := Lib.hid (HBW.out.trans (HE8.out.mono HBW.out.size))
  go_region_held3 (fun w' => w'.cell? ⟨w7.heap.size, 0, none⟩ = some (.slice ar7 nr cr7) ∧ w'.cell? ⟨w7.heap.size, 1, none⟩ = some (.int .i64 (W (exC fc nc 2))) ∧ w'.cell? ⟨w7.heap.size, 2, none⟩ = some (.slice ac7 M cc7) ∧ w'.cell? ⟨w7.heap.size, 3, none⟩ = some (.bool hl) ∧ w'.cell? ⟨w7.heap.size, 4, none⟩ = some (.bool st) ∧ w'.cell? ⟨w7.heap.size, 5, none⟩ = some (.slice ao7 no co7) ∧ w'.cell? ⟨w.heap.size, 0, none⟩ = some (.slice Ar nr cr) ∧ w'.cell? ⟨w.heap.size, 1, none⟩ = some (.int .i64 pc) ∧ w'.cell? ⟨w.heap.size, 2, none⟩ = some (.slice Ac nc cc) ∧ w'.cell? ⟨w.heap.size, 3, none⟩ = some (.bool hl) ∧ w'.cell? ⟨w.heap.size, 4, none⟩ = some (.bool st) ∧ w'.cell? ⟨w.heap.size, 5, none⟩ = some (.slice Ao no co) ∧ Below W8.heap.size W8 w') (first | (with_reducible exact HS8.out) | (with_reducible assumption) | (with_reducible exact keep2 (by assumption) (by assumption)))
    (first
      | (go_at_call 27; go_must (refine (leaveState_any _ _ _ _ _ _ _ _ _ _ _ _ _ fr fc bo (by exact HR.out.below HW8w.out.drew) (by omega) (by exact HC.out.below HW8w.out.drew) (by omega) (by exact HO.out.below HW8w.out.drew) (by omega)).mono ?_; rintro e w9 ⟨c9, ar9, cr9, ac9, cc9, ao9, co9, rfl, oR9, oC9, oO9, hb9⟩; rw [HM.out] at oC9; rw [HM.out]; have J1 := Lib.hid (own_ints oR9); have J2 := Lib.hid (own_ints oC9); have J3 := Lib.hid (own_src oO9 (bys_one _)); have H9 := Lib.hid (undr hb9); clear oR9 oC9 oO9))
      | (go_at_call 26; refine (sameState_true _ _ _ _ _ _ _ _ _ _ _ _ _ _ _ _ _ _ _ fr (leaF fc nc) bo (by exact own_ints (OR7.out.below H9.out)) (by exact own_ints (OC7.out.below H9.out)) (by exact own_src (OO7.out.below H9.out) (bys_one _)) J1.out J2.out J3.out (by omega) (by omega)).mono ?_; rintro e w10 ⟨rfl, hb10⟩))
  have H10 := Lib.hid (btrans H9.out hb10)
  obtain ⟨h0, h1, h2, h3, h4, h5, _⟩ := (HB8.out.below H10.out HB8.out.lt).cells
  have WR := Lib.hid (wt_own (OR7.out.below H10.out))
  have WC := Lib.hid (wt_own (OC7.out.below H10.out))
  have WO := Lib.hid (wt_own (OO7.out.below H10.out))
  have HZ := Lib.hid (Nat.le_trans HE68.out.size H10.out.size)
  clear hb10
  go_wp2_with fail
  refine (wipe_any _ W6.heap.size _ _ _ _ _ _ _ _ _ _ _ _ HZ.out WR.out WC.out WO.out (by omega) (by omega) (by omega)).mono ?_
  rintro e w11 ⟨rfl, hb11⟩
  have H611 := Lib.hid ((HE68.out.trans (H10.out.mono HE68.out.size)).trans hb11)
  have HB0' := Lib.hid ((HB0.out.below HE6.out HB0.out.lt).below H611.out (Nat.lt_of_lt_of_le HB0.out.lt HE6.out.size))
  have HBf := Lib.hid (HB4'.out.below H611.out HB4'.out.lt)
  have HBa := Lib.hid (HB6.out.below H611.out HB6.out.lt)
  have LR := Lib.hid ((HLR.out.below HE46.out).below H611.out)
  have LC := Lib.hid ((HLC.out.below HE46.out).below H611.out)
  have LO := Lib.hid ((HLO.out.below HE46.out).below H611.out)
  have AR := Lib.hid (own_ints (OR5.out.below H611.out))
  have AC := Lib.hid (own_ints (OC5.out.below H611.out))
  have AO := Lib.hid (own_src (OO5.out.below H611.out) (bys_one _))
  have HWN := Lib.hid ((HBW.out.trans (HE6.out.mono HBW.out.size)).trans (H611.out.mono (Nat.le_trans HBW.out.size HE6.out.size)))
  have HSS := Lib.hid (keep30 HBf.out HB0'.out HBa.out)
  clear hb11 h0 h1 h2 h3 h4 h5
  go_wp2_with fail
  go_region_held3 (fun w' => w'.cell? ⟨w3.heap.size, 0, none⟩ = some (.slice ar3 nr cr3) ∧ w'.cell? ⟨w3.heap.size, 1, none⟩ = some (.int .i64 pc) ∧ w'.cell? ⟨w3.heap.size, 2, none⟩ = some (.slice ac3 nc cc3) ∧ w'.cell? ⟨w3.heap.size, 3, none⟩ = some (.bool hl) ∧ w'.cell? ⟨w3.heap.size, 4, none⟩ = some (.bool st) ∧ w'.cell? ⟨w3.heap.size, 5, none⟩ = some (.slice ao3 no co3) ∧ w'.cell? ⟨w.heap.size, 0, none⟩ = some (.slice Ar nr cr) ∧ w'.cell? ⟨w.heap.size, 1, none⟩ = some (.int .i64 pc) ∧ w'.cell? ⟨w.heap.size, 2, none⟩ = some (.slice Ac nc cc) ∧ w'.cell? ⟨w.heap.size, 3, none⟩ = some (.bool hl) ∧ w'.cell? ⟨w.heap.size, 4, none⟩ = some (.bool st) ∧ w'.cell? ⟨w.heap.size, 5, none⟩ = some (.slice Ao no co) ∧ w'.cell? ⟨w5.heap.size, 0, none⟩ = some (.slice ar5 nr cr5) ∧ w'.cell? ⟨w5.heap.size, 1, none⟩ = some (.int .i64 (W (exC fc nc 1))) ∧ w'.cell? ⟨w5.heap.size, 2, none⟩ = some (.slice ac5 M cc5) ∧ w'.cell? ⟨w5.heap.size, 3, none⟩ = some (.bool hl) ∧ w'.cell? ⟨w5.heap.size, 4, none⟩ = some (.bool st) ∧ w'.cell? ⟨w5.heap.size, 5, none⟩ = some (.slice ao5 no co5) ∧ Below w11.heap.size w11 w') (first | (with_reducible exact HSS.out) | (with_reducible assumption) | (with_reducible exact keep3 (by assumption) (by assumption)))
    (first
      | (go_at_call 29; go_must (refine (stay_true _ _ _ _ _ _ _ _ _ _ _ _ _ _ _ _ _ _ _ _ fr fc bo (by exact LR.out) (by exact LC.out) (by exact LO.out) (by exact HR.out.below HWN.out.drew) (by exact HC.out.below HWN.out.drew) (by exact HO.out.below HWN.out.drew) (by omega) (by omega) (by omega)).mono ?_; rintro e w12 ⟨rfl, hb12⟩; have H12 := Lib.hid (undr hb12)))
      | (go_at_call 30; go_must (refine (enterState_any _ _ _ _ _ _ _ _ _ _ _ _ _ fr fc bo _ _ (by exact (HR.out.below HWN.out).below H12.out) (by omega) (by exact (HC.out.below HWN.out).below H12.out) (by omega) (by exact (HO.out.below HWN.out).below H12.out) (by omega)).mono ?_; rintro e w13 ⟨c13, ar13, cr13, ac13, cc13, ao13, co13, rfl, oR13, oC13, oO13, hb13⟩; rw [HM.out] at oC13; rw [HM.out]; have J1' := Lib.hid (own_ints oR13); have J2' := Lib.hid (own_ints oC13); have J3' := Lib.hid (own_src oO13 (bys_one _)); have H13 := Lib.hid (btrans H12.out hb13); clear oR13 oC13 oO13))
      | (go_at_call 26; go_must (refine (sameState_true _ _ _ _ _ _ _ _ _ _ _ _ _ _ _ _ _ _ _ fr (entF fc nc pc a1 a2) bo (by exact AR.out.below H13.out) (by exact AC.out.below H13.out) (by exact AO.out.below H13.out) J1'.out J2'.out J3'.out (by omega) (by omega)).mono ?_; rintro e w14 ⟨rfl, hb14⟩; have H14 := Lib.hid (btrans H13.out hb14))))
  go_wp2_with fail
  go_ret
  exact ⟨rfl, HWN.out.trans (H14.out.mono HWN.out.size)⟩
theorem out_big (w : World) (Ar Ac Ao : Option Addr) (nr cr nc cc no co : Nat) (pc : Int) (hl st : Bool) (a1 a2 : Int) (hbig : bigB nr nc no = true) :
    Calls Try.prog 8 #[.agg #[.slice Ar nr cr, .int .i64 pc, .slice Ac nc cc, .bool hl, .bool st, .slice Ao no co], .int .i64 a1, .int .i64 a2] w fun e w' => e = .returned (.bool true) ∧ Below w.heap.size w w' := by
  have HBG := Lib.hid hbig
  clear hbig
  obtain ⟨W0, hW0⟩ : ∃ W0, (w.alloc (Obj.cells #[.slice Ar nr cr, .int .i64 pc, .slice Ac nc cc, .bool hl, .bool st, .slice Ao no co] 37)) = W0 := ⟨_, rfl⟩
  have b0 : Box W0 w.heap.size 37 (.slice Ar nr cr) (.int .i64 pc) (.slice Ac nc cc) (.bool hl) (.bool st) (.slice Ao no co) := by rw [← hW0]; exact Box.new _ _ _ _ _ _ _ _
  have hbw : Below w.heap.size w W0 := by rw [← hW0]; exact (Below.refl _ _).alloc (Nat.le_refl _) _
  have HW0 := Lib.hid hW0
  have HB0 := Lib.hid b0
  have HBW := Lib.hid hbw
  clear hW0 b0 hbw
  go_enter Try.func8, Try.ntmps8
  go_wp2_with fail
  rw [HW0.out]
  refine (alive9 _).mono ?_
  rintro e w1 ⟨rfl, hb1⟩
  have HE1 := Lib.hid hb1
  clear hb1
  obtain ⟨g0, g1, g2, g3, g4, g5, _⟩ := (HB0.out.below HE1.out HB0.out.lt).cells
  go_wp2_with fail
  refine (big_any _ _ _ _ _ _ _ _ _ _ _ _ _).mono ?_
  rintro e w2 ⟨rfl, hb2⟩
  rw [HBG.out]
  have HE2 := Lib.hid (btrans HE1.out hb2)
  clear hb2 HE1 g0 g1 g2 g3 g4 g5
  go_wp2_with fail
  go_ret
  exact ⟨rfl, HBW.out.trans (HE2.out.mono HBW.out.size)⟩
theorem walk (Ar : Option Addr) (nr cr : Nat) (zr : List Int) (pc : Int) (Ac : Option Addr) (nc cc : Nat) (zc : List Int) (hl st : Bool) (Ao : Option Addr) (no co : Nat) (zo : List Int) (a1 : Int) (a2 : Int) (w : World) (rr : IsRow .i64 w Ar nr cr zr) (rc : IsRow .i64 w Ac nc cc zc) (ro : IsRow .u8 w Ao no co zo) (wpc : (Lit.int .i64 pc).wf = true) (w1 : (Lit.int .i64 a1).wf = true) (w2 : (Lit.int .i64 a2).wf = true) :
    Calls Try.prog 8 #[.agg #[.slice Ar nr cr, .int .i64 pc, .slice Ac nc cc, .bool hl, .bool st, .slice Ao no co], .int .i64 a1, .int .i64 a2] w fun e w' => e = .returned (.bool true) ∧ Below w.heap.size w w' := by
  by_cases hbig : bigB nr nc no = true
  · exact out_big w Ar Ac Ao nr cr nc cc no co pc hl st a1 a2 hbig
  have hb2 : bigB nr nc no = false := by simpa using hbig
  exact core w Ar Ac Ao nr cr nc cc no co pc hl st _ _ _ a1 a2 (isrow_ints rr) (isrow_ints rc) (isrow_bys ro) hb2

set_option maxRecDepth 100000 in
set_option maxHeartbeats 1000000 in
theorem lifted (os : Os) (started : os.Started) (H : Type) (enc : TypeId × Value → H) :
    ReturnsInHanded {} Try.checked os 8 .any (Rows.cpuTrapsSpec.pre6 enc Try.prog Try.f8 Rows.cpuTrapsRow.domain false) (Rows.cpuTrapsSpec.post enc Try.prog Try.f8 false true false false) := by
  refine returnsInHanded_of_change (C := Try.checked) own started (by kernel_rfl) Try.func8
    (ChangeSpec.witness6 (enc := enc) (C := Try.checked) false ⟨#[], #[.agg #[.slice none 0 0, .int .i64 0, .slice none 0 0, .bool false, .bool false, .slice none 0 0], .int .i64 0, .int .i64 0], []⟩ 8 (by kernel_rfl) (by kernel_rfl) (by kernel_rfl) (by kernel_rfl)) ?_
  intro W base args ds gs before hval0 hW hcnd _
  have hval : ∀ (j : Nat) t v, Try.f8.params[j]? = some t → args[j]? = some v → Value.okWide Try.prog W .any base t v := hval0
  have hW' := hW
  obtain ⟨p, q, hA0, hV, rfl, hfz, hnd⟩ := hW
  have hA : DataW.TrodAll enc Try.prog W 0 (fun _ => true) true Try.f8.params.toList args.toList ds p := hA0
  rw [Try.params8] at hA hval
  obtain ⟨v0, vs0, d0, ds0, p0, q0, hargs, rfl, rfl, h0, r0⟩ := trodAll_cons hA
  obtain ⟨v1, vs1, d1, ds1, p1, q1, rfl, rfl, rfl, h1, r1⟩ := trodAll_cons r0
  obtain ⟨v2, vs2, d2, ds2, p2, q2, rfl, rfl, rfl, h2, r2⟩ := trodAll_cons r1
  obtain ⟨rfl, rfl, rfl⟩ := trodAll_nil r2
  obtain rfl : args = #[v0, v1, v2] := by cases args; simp_all
  obtain ⟨rfl, rfl⟩ := trodVars_none hV
  have k0 := h0
  have lt0 : ∀ x ∈ p0, x.block < W.heap.size := by obtain ⟨m, hm⟩ := k0; exact DataW.trod_lt m _ _ _ hm
  obtain ⟨Ar, nr, cr, zr, pc, Ac, nc, cc, zc, hl, st, Ao, no, co, zo, rfl, rr, rc, ro, wpc⟩ := open_state Try.underlying37 (by kernel_rfl) (by kernel_rfl) Try.underlying27 Try.underlying3 (by kernel_rfl) Try.underlying4 Try.underlying35 Try.underlying5 (by kernel_rfl) (hval 0 37 v0 rfl rfl) h0
  obtain ⟨a1, rfl, rfl, rfl, w1⟩ := open_int Try.underlying3 (hval 1 3 v1 rfl rfl) h1
  obtain ⟨a2, rfl, rfl, rfl, w2⟩ := open_int Try.underlying3 (hval 2 3 v2 rfl rfl) h2
  clear hA0 hval0
  refine (walk Ar nr cr zr pc Ac nc cc zc hl st Ao no co zo a1 a2 W rr rc ro wpc w1 w2).mono fun e W' ⟨he, bel⟩ => ?_
  subst he
  exact ⟨_, rfl, _, _, _, [], _, [], hW', trodAll_mk1 (shut_bool Try.underlying4 _), (trodAll_cons_mk (Below.trod laidOut (by kernel_rfl) (of_decide_eq_true (by kernel_rfl)) k0 bel lt0) (trodAll_cons_mk (shut_int Try.underlying3 w1) (trodAll_cons_mk (shut_int Try.underlying3 w2) trodAll_mk0))), rfl, bel.frame _, fun h => by cases h⟩

theorem over : Rows.cpuTrapsRow.holds Try.pinned (OpenSpec.ofChange Rows.cpuTrapsSpec) :=
  OpenClaim.holds_of_wide 8 Try.f8 rfl rfl rfl rfl rfl rfl rfl ⟨rfl, rfl, rfl, rfl, rfl⟩ rfl rfl rfl rfl rfl (by kernel_rfl) Try.func8 (by kernel_rfl)
    (of_decide_eq_true (by kernel_rfl)) (by unfold Func.isWrapper; first | (rw [if_pos (by decide +kernel)]; kernel_rfl) | (rw [if_neg (by decide +kernel)]; exact ⟨rfl, rfl⟩))
    (fun os started H enc _ => lifted os started H enc)

theorem proved : Rows.CpuTrapsSaid := over
#print axioms proved
end Go.Proofs.Ytodkenbkogfefaa.cpuTraps
