/- Proved: the Go law 'trunnionlaw20.VirqTells' returns true for every input and leaves its arguments as they were (the given statement Rows.VirqTellsSaid). No conditions. -/
import Derived.Test.YtdnmjhkgibaadaaRows
import Derived.Test.YtdnmjhkgibaadaaOpenSt
import Derived.Test.YtdnmjhkgibaadaaVirqLaw
import Derived.Test.YtdnmjhkgibaadaaRefSleep
import Derived.Test.YtdnmjhkgibaadaaStay
import Derived.Test.YtdnmjhkgibaadaaLent
import Derived.Test.YtdnmjhkgibaadaaSame
import Derived.WalkKit
import Derived.ProofKit
import Derived.OpenShut
import Derived.ShutString
import Derived.ChangeOld
import Derived.Below
namespace Go.Proofs.Ytdnmjhkgibaadaa.virqTells
open Go.ChangeShapes Go.WideShapes Go.ChangeAt Go.RowKit
set_option linter.unusedVariables false

theorem own : ownKnob Try.prog.godebug = none := by kernel_rfl
theorem laidOut : laidOutB Try.prog = true := by kernel_rfl

theorem keepT {X W w' : World} {b0 o0 b1 o1 b2 o2 b3 o3 b4 o4 b5 o5 b6 o6 b7 o7 b8 o8 b9 o9 b10 o10 b11 o11 b12 o12 b13 o13 b14 o14 : Nat} {v0 v1 v2 v3 v4 v5 v6 v7 v8 v9 v10 v11 v12 v13 v14 : Value} (hS : W.cell? ⟨b0, o0, none⟩ = some v0 ∧ W.cell? ⟨b1, o1, none⟩ = some v1 ∧ W.cell? ⟨b2, o2, none⟩ = some v2 ∧ W.cell? ⟨b3, o3, none⟩ = some v3 ∧ W.cell? ⟨b4, o4, none⟩ = some v4 ∧ W.cell? ⟨b5, o5, none⟩ = some v5 ∧ W.cell? ⟨b6, o6, none⟩ = some v6 ∧ W.cell? ⟨b7, o7, none⟩ = some v7 ∧ W.cell? ⟨b8, o8, none⟩ = some v8 ∧ W.cell? ⟨b9, o9, none⟩ = some v9 ∧ W.cell? ⟨b10, o10, none⟩ = some v10 ∧ W.cell? ⟨b11, o11, none⟩ = some v11 ∧ W.cell? ⟨b12, o12, none⟩ = some v12 ∧ W.cell? ⟨b13, o13, none⟩ = some v13 ∧ W.cell? ⟨b14, o14, none⟩ = some v14 ∧ Below X.heap.size X W) (hb : Below W.heap.size W w') : w'.cell? ⟨b0, o0, none⟩ = some v0 ∧ w'.cell? ⟨b1, o1, none⟩ = some v1 ∧ w'.cell? ⟨b2, o2, none⟩ = some v2 ∧ w'.cell? ⟨b3, o3, none⟩ = some v3 ∧ w'.cell? ⟨b4, o4, none⟩ = some v4 ∧ w'.cell? ⟨b5, o5, none⟩ = some v5 ∧ w'.cell? ⟨b6, o6, none⟩ = some v6 ∧ w'.cell? ⟨b7, o7, none⟩ = some v7 ∧ w'.cell? ⟨b8, o8, none⟩ = some v8 ∧ w'.cell? ⟨b9, o9, none⟩ = some v9 ∧ w'.cell? ⟨b10, o10, none⟩ = some v10 ∧ w'.cell? ⟨b11, o11, none⟩ = some v11 ∧ w'.cell? ⟨b12, o12, none⟩ = some v12 ∧ w'.cell? ⟨b13, o13, none⟩ = some v13 ∧ w'.cell? ⟨b14, o14, none⟩ = some v14 ∧ Below X.heap.size X w' := by
  obtain ⟨h0, h1, h2, h3, h4, h5, h6, h7, h8, h9, h10, h11, h12, h13, h14, h⟩ := hS
  have hc := cell_below hb
  exact ⟨hc _ _ h0, hc _ _ h1, hc _ _ h2, hc _ _ h3, hc _ _ h4, hc _ _ h5, hc _ _ h6, hc _ _ h7, hc _ _ h8, hc _ _ h9, hc _ _ h10, hc _ _ h11, hc _ _ h12, hc _ _ h13, hc _ _ h14, h.trans (hb.mono h.size)⟩
theorem pickT {X W : World} {b0 o0 b1 o1 b2 o2 b3 o3 b4 o4 b5 o5 b6 o6 b7 o7 b8 o8 b9 o9 b10 o10 b11 o11 b12 o12 b13 o13 b14 o14 : Nat} {v0 v1 v2 v3 v4 v5 v6 v7 v8 v9 v10 v11 v12 v13 v14 : Value} (hS : W.cell? ⟨b0, o0, none⟩ = some v0 ∧ W.cell? ⟨b1, o1, none⟩ = some v1 ∧ W.cell? ⟨b2, o2, none⟩ = some v2 ∧ W.cell? ⟨b3, o3, none⟩ = some v3 ∧ W.cell? ⟨b4, o4, none⟩ = some v4 ∧ W.cell? ⟨b5, o5, none⟩ = some v5 ∧ W.cell? ⟨b6, o6, none⟩ = some v6 ∧ W.cell? ⟨b7, o7, none⟩ = some v7 ∧ W.cell? ⟨b8, o8, none⟩ = some v8 ∧ W.cell? ⟨b9, o9, none⟩ = some v9 ∧ W.cell? ⟨b10, o10, none⟩ = some v10 ∧ W.cell? ⟨b11, o11, none⟩ = some v11 ∧ W.cell? ⟨b12, o12, none⟩ = some v12 ∧ W.cell? ⟨b13, o13, none⟩ = some v13 ∧ W.cell? ⟨b14, o14, none⟩ = some v14 ∧ Below X.heap.size X W) : Below X.heap.size X W := hS.2.2.2.2.2.2.2.2.2.2.2.2.2.2.2
theorem undr {w w' : World} (h : Below w.drew.heap.size w.drew w') : Below w.heap.size w w' := ⟨h.os, h.tape, h.output, h.size, h.block⟩
theorem skip7 (fc : Nat → Int) (nc : Nat) (a n : Int) (old : Int) (ho : (if 7 < nc then fc 7 else 0) = old) (hn : max 0 a = n) : skF fc nc a 7 = W (W old + W n) := by
  unfold skF; rw [if_pos rfl, ho, hn, W_add]
set_option maxRecDepth 100000 in
set_option maxHeartbeats 8000000 in
theorem core (w : World) (Ar Ac Ao : Option Addr) (nr cr nc cc no co : Nat) (pc : Int) (hl st : Bool) (fr fc : Nat → Int) (bo : List Int) (a1 a2 a3 : Int)
    (hr : IntsAt w Ar nr fr) (hc : IntsAt w Ac nc fc) (ho : Src w Ao no (bys bo)) (hbig : bigB nr nc no = false) :
    Calls Try.prog 4 #[.agg #[.slice Ar nr cr, .int .i64 pc, .slice Ac nc cc, .bool hl, .bool st, .slice Ao no co], .int .i64 a1, .int .i64 a2, .int .i64 a3] w fun e w' => e = .returned (.bool true) ∧ Below w.heap.size w w' := by
  obtain ⟨l1, l2, l3⟩ := big_no hbig
  obtain ⟨M, hM⟩ : ∃ M, max 11 nc = M := ⟨_, rfl⟩
  have hM1 : 11 ≤ M := by omega
  have HM := Lib.hid hM
  have HBG := Lib.hid hbig
  have HR := Lib.hid hr
  have HC := Lib.hid hc
  have HO := Lib.hid ho
  clear hr hc ho hbig hM
  obtain ⟨W0, hW0⟩ : ∃ W0, (w.alloc (Obj.cells #[.slice Ar nr cr, .int .i64 pc, .slice Ac nc cc, .bool hl, .bool st, .slice Ao no co] 43)) = W0 := ⟨_, rfl⟩
  have b0 : Box W0 w.heap.size 43 (.slice Ar nr cr) (.int .i64 pc) (.slice Ac nc cc) (.bool hl) (.bool st) (.slice Ao no co) := by rw [← hW0]; exact Box.new _ _ _ _ _ _ _ _
  have hbw : Below w.heap.size w W0 := by rw [← hW0]; exact (Below.refl _ _).alloc (Nat.le_refl _) _
  have HW0 := Lib.hid hW0
  have HB0 := Lib.hid b0
  have HBW := Lib.hid hbw
  clear hW0 b0 hbw
  go_enter Try.func4, Try.ntmps4
  go_wp2_with fail
  rw [HW0.out]
  refine (alive20 _).mono ?_
  rintro e w1 ⟨rfl, hb1⟩
  have HE1 := Lib.hid hb1
  clear hb1
  obtain ⟨g0, g1, g2, g3, g4, g5, _⟩ := (HB0.out.below HE1.out HB0.out.lt).cells
  go_wp2_with fail
  refine (big_any _ _ _ _ _ _ _ _ _ _ _ _ _).mono ?_
  rintro e w2 ⟨rfl, hb2⟩
  rw [HBG.out]
  have HE2 := Lib.hid (btrans HE1.out hb2)
  clear hb2 HE1 g0 g1 g2 g3 g4 g5
  obtain ⟨g0, g1, g2, g3, g4, g5, _⟩ := (HB0.out.below HE2.out HB0.out.lt).cells
  have HX2 := Lib.hid (HBW.out.trans (HE2.out.mono HBW.out.size))
  go_wp2_with fail
  refine (ofm_any _ _ _ _ _ _ _ _ _ _ _ _ _ fr fc bo (HR.out.below HX2.out) (by omega) (HC.out.below HX2.out) (by omega) (HO.out.below HX2.out) (by omega)).mono ?_
  rintro e w3 ⟨bm, rfl, _, _, hxc, hb3⟩
  have X7 := Lib.hid (hxc 7 (by omega))
  have X8 := Lib.hid (hxc 8 (by omega))
  have HE3 := Lib.hid (btrans HE2.out hb3)
  clear hb3 HE2 HX2 g0 g1 g2 g3 g4 g5 hxc
  obtain ⟨g0, g1, g2, g3, g4, g5, _⟩ := (HB0.out.below HE3.out HB0.out.lt).cells
  have HX3 := Lib.hid (HBW.out.trans (HE3.out.mono HBW.out.size))
  go_wp2_with fail
  refine (lent_any _ _ _ _ _ _ _ _ _ _ _ _ _ fr fc bo (HR.out.below HX3.out) (by omega) (HC.out.below HX3.out) (by omega) (HO.out.below HX3.out) (by omega)).mono ?_
  rintro e w4 ⟨ar4, cr4, ac4, cc4, ao4, co4, rfl, lR, lC, lO, hb4⟩
  have HE34 := Lib.hid hb4
  have HE4 := Lib.hid (btrans HE3.out hb4)
  clear hb4 g0 g1 g2 g3 g4 g5
  obtain ⟨W5, hW5⟩ : ∃ W5, (w4.alloc (Obj.cells #[.slice ar4 nr cr4, .int .i64 pc, .slice ac4 nc cc4, .bool hl, .bool st, .slice ao4 no co4] 43)) = W5 := ⟨_, rfl⟩
  have b5 : Box W5 w4.heap.size 43 (.slice ar4 nr cr4) (.int .i64 pc) (.slice ac4 nc cc4) (.bool hl) (.bool st) (.slice ao4 no co4) := by rw [← hW5]; exact Box.new _ _ _ _ _ _ _ _
  have hb5 : Below w4.heap.size w4 W5 := by rw [← hW5]; exact (Below.refl _ _).alloc (Nat.le_refl _) _
  have HE5 := Lib.hid (btrans HE4.out hb5)
  have HE35 := Lib.hid (btrans HE34.out hb5)
  have HLR := Lib.hid (lR.below hb5)
  have HLC := Lib.hid (lC.below hb5)
  have HLO := Lib.hid (lO.below hb5)
  have NR : Hid (ar4 = none → cr4 = 0) := Lib.hid (by obtain ⟨_, _, e, _⟩ := lR.form; intro h; rw [h] at e; cases e)
  have NO : Hid (ao4 = none → co4 = 0) := Lib.hid (by obtain ⟨_, _, e, _⟩ := lO.form; intro h; rw [h] at e; cases e)
  have IR := Lib.hid (HLR.out.src (csL_one _ _))
  have IC := Lib.hid (src_ints (HLC.out.src (csL_one _ _)))
  have IO := Lib.hid (HLO.out.src (bys_one _))
  have HB5 := Lib.hid b5
  have HW5 := Lib.hid hW5
  clear lR lC lO b5 hb5 hW5
  go_wp2_with fail
  rw [HW5.out]
  refine (vsleep_any _ _ _ _ _ _ _ _ _ fc _ _ IC.out (by omega)).mono ?_
  rintro e w6 ⟨rfl, hb6⟩
  have H56 := Lib.hid hb6
  have HE6 := Lib.hid (btrans HE5.out hb6)
  clear hb6
  obtain ⟨g0, g1, g2, g3, g4, g5, _⟩ := (HB0.out.below HE6.out HB0.out.lt).cells
  have HX6 := Lib.hid (HBW.out.trans (HE6.out.mono HBW.out.size))
  go_wp2_with fail
  refine (refSleep_any _ _ _ _ _ _ _ _ _ _ _ _ _ fr fc bo _ _ (HR.out.below HX6.out) (by omega) (HC.out.below HX6.out) (by omega) (HO.out.below HX6.out) (by omega)).mono ?_
  rintro e w7 ⟨rfl, hb7⟩
  have H57 := Lib.hid (btrans H56.out hb7)
  have HE7 := Lib.hid (btrans HE6.out hb7)
  clear hb7 g0 g1 g2 g3 g4 g5 HX6 HE6 H56
  obtain ⟨g0, g1, g2, g3, g4, g5, _⟩ := (HB5.out.below H57.out HB5.out.lt).cells
  go_wp2_with fail
  refine (vpend_any _ _ _ _ _ _ _ _ _ fc _ _ (IC.out.below H57.out) (by omega)).mono ?_
  rintro e w8 ⟨rfl, hb8⟩
  have H58 := Lib.hid (btrans H57.out hb8)
  have HE8 := Lib.hid (btrans HE7.out hb8)
  clear hb8 g0 g1 g2 g3 g4 g5 HE7 H57
  obtain ⟨g0, g1, g2, g3, g4, g5, _⟩ := (HB5.out.below H58.out HB5.out.lt).cells
  go_wp2_with fail
  refine (skip_any _ _ _ _ _ _ _ _ _ _ _ _ _ fc (csL fr nr) (bys bo) _ (IR.out.below H58.out) NR.out (by omega) (IO.out.below H58.out) NO.out (by omega) (IC.out.below H58.out) (by omega)).mono ?_
  rintro e w9 ⟨ar9, cr9, ao9, co9, g, rfl, hR9, _, hO9, _, hrow, hg9, hb9⟩
  rw [HM.out] at hrow ⊢
  have H59 := Lib.hid (btrans H58.out hb9)
  have HE9 := Lib.hid (btrans HE8.out hb9)
  clear hb9 g0 g1 g2 g3 g4 g5 HE8 H58 hg9
  obtain ⟨W10, hW10⟩ : ∃ W10, (w9.alloc (Obj.cells #[.slice ar9 nr cr9, .int .i64 pc, .slice (some ⟨g, 0, none⟩) M M, .bool hl, .bool st, .slice ao9 no co9] 43)) = W10 := ⟨_, rfl⟩
  have b10 : Box W10 w9.heap.size 43 (.slice ar9 nr cr9) (.int .i64 pc) (.slice (some ⟨g, 0, none⟩) M M) (.bool hl) (.bool st) (.slice ao9 no co9) := by rw [← hW10]; exact Box.new _ _ _ _ _ _ _ _
  have hb10 : Below w9.heap.size w9 W10 := by rw [← hW10]; exact (Below.refl _ _).alloc (Nat.le_refl _) _
  have H510 := Lib.hid (btrans H59.out hb10)
  have HE10 := Lib.hid (btrans HE9.out hb10)
  have H310 := Lib.hid (btrans HE35.out H510.out)
  have SR9 := Lib.hid (src_ints (hR9.1.below hb10))
  have SO9 := Lib.hid (hO9.1.below hb10)
  have RW := Lib.hid (hrow.below hb10 hrow.lt)
  have HB10 := Lib.hid b10
  have HW10 := Lib.hid hW10
  have HX10 := Lib.hid (HBW.out.trans (HE10.out.mono HBW.out.size))
  clear hR9 hO9 hrow b10 hb10 hW10
  have i7 : (7 : Int) < (M : Int) := by omega
  have i8 : (8 : Int) ≤ (M : Int) := by omega
  have n8 : 8 ≤ M := by omega
  have n7 : 7 < M := by omega
  have dM : decide (M < 8) = false := by simp; omega
  rcases Int.lt_or_le a3 0 with hneg | hpos
  · skip
    go_upto_region 13 with fail
    rw [HW10.out]
    have hS : W10.drew.cell? ⟨bm, 24, none⟩ = some (.int .i64 (cv fc nc 7)) ∧ W10.drew.cell? ⟨bm, 25, none⟩ = some (.int .i64 (cv fc nc 8)) ∧ W10.drew.cell? ⟨w4.heap.size, 0, none⟩ = some (.slice ar4 nr cr4) ∧ W10.drew.cell? ⟨w4.heap.size, 1, none⟩ = some (.int .i64 pc) ∧ W10.drew.cell? ⟨w4.heap.size, 2, none⟩ = some (.slice ac4 nc cc4) ∧ W10.drew.cell? ⟨w4.heap.size, 3, none⟩ = some (.bool hl) ∧ W10.drew.cell? ⟨w4.heap.size, 4, none⟩ = some (.bool st) ∧ W10.drew.cell? ⟨w4.heap.size, 5, none⟩ = some (.slice ao4 no co4) ∧ W10.drew.cell? ⟨w.heap.size, 0, none⟩ = some (.slice Ar nr cr) ∧ W10.drew.cell? ⟨w.heap.size, 1, none⟩ = some (.int .i64 pc) ∧ W10.drew.cell? ⟨w.heap.size, 2, none⟩ = some (.slice Ac nc cc) ∧ W10.drew.cell? ⟨w.heap.size, 3, none⟩ = some (.bool hl) ∧ W10.drew.cell? ⟨w.heap.size, 4, none⟩ = some (.bool st) ∧ W10.drew.cell? ⟨w.heap.size, 5, none⟩ = some (.slice Ao no co) ∧ W10.drew.cell? ⟨w9.heap.size, 2, none⟩ = some (.slice (some ⟨g, 0, none⟩) M M) ∧ Below W10.heap.size W10 W10.drew := by
      obtain ⟨p0, p1, p2, p3, p4, p5, _⟩ := (HB5.out.below H510.out HB5.out.lt).cells
      obtain ⟨q0, q1, q2, q3, q4, q5, _⟩ := (HB0.out.below HE10.out HB0.out.lt).cells
      obtain ⟨r0, r1, r2, r3, r4, r5, _⟩ := HB10.out.cells
      exact ⟨cell_below H310.out _ _ X7.out, cell_below H310.out _ _ X8.out, p0, p1, p2, p3, p4, p5, q0, q1, q2, q3, q4, q5, r2, (Below.refl _ _).drew⟩
    have HS := Lib.hid hS
    clear hS
    go_region_held3 (fun w' => w'.cell? ⟨bm, 24, none⟩ = some (.int .i64 (cv fc nc 7)) ∧ w'.cell? ⟨bm, 25, none⟩ = some (.int .i64 (cv fc nc 8)) ∧ w'.cell? ⟨w4.heap.size, 0, none⟩ = some (.slice ar4 nr cr4) ∧ w'.cell? ⟨w4.heap.size, 1, none⟩ = some (.int .i64 pc) ∧ w'.cell? ⟨w4.heap.size, 2, none⟩ = some (.slice ac4 nc cc4) ∧ w'.cell? ⟨w4.heap.size, 3, none⟩ = some (.bool hl) ∧ w'.cell? ⟨w4.heap.size, 4, none⟩ = some (.bool st) ∧ w'.cell? ⟨w4.heap.size, 5, none⟩ = some (.slice ao4 no co4) ∧ w'.cell? ⟨w.heap.size, 0, none⟩ = some (.slice Ar nr cr) ∧ w'.cell? ⟨w.heap.size, 1, none⟩ = some (.int .i64 pc) ∧ w'.cell? ⟨w.heap.size, 2, none⟩ = some (.slice Ac nc cc) ∧ w'.cell? ⟨w.heap.size, 3, none⟩ = some (.bool hl) ∧ w'.cell? ⟨w.heap.size, 4, none⟩ = some (.bool st) ∧ w'.cell? ⟨w.heap.size, 5, none⟩ = some (.slice Ao no co) ∧ w'.cell? ⟨w9.heap.size, 2, none⟩ = some (.slice (some ⟨g, 0, none⟩) M M) ∧ Below W10.heap.size W10 w') (first | (with_reducible exact HS.out) | (with_reducible assumption) | (with_reducible exact keepT (by assumption) (by assumption)))
      (first
        | (go_at_call 17; go_must (refine (refPending_any _ _ _ _ _).mono ?_; rintro e w' ⟨rfl, rfl⟩))
        | (go_at_call 18; go_must (refine (stay_true _ _ _ _ _ _ _ _ _ _ _ _ _ _ _ _ _ _ _ _ fr fc bo (by exact HLR.out.below H510.out.drew) (by exact HLC.out.below H510.out.drew) (by exact HLO.out.below H510.out.drew) (by exact HR.out.below HX10.out.drew) (by exact HC.out.below HX10.out.drew) (by exact HO.out.below HX10.out.drew) (by omega) (by omega) (by omega)).mono ?_; rintro e w11 ⟨rfl, hb11⟩; have H11 := Lib.hid (undr hb11))))
    obtain ⟨g0, g1, g2, g3, g4, g5, _⟩ := ((HB0.out.below HE10.out HB0.out.lt).below H11.out (Nat.lt_of_lt_of_le HB0.out.lt HE10.out.size)).cells
    obtain ⟨t0, t1, t2, t3, t4, t5, _⟩ := (HB10.out.below H11.out HB10.out.lt).cells
    have hrow7 := (RW.out.below H11.out RW.out.lt).cell (k := 7) (by omega)
    have SR11 := Lib.hid (SR9.out.below H11.out)
    have SS11 := Lib.hid ((HR.out.below HX10.out).below H11.out)
    have HN := Lib.hid (HX10.out.trans (H11.out.mono HX10.out.size))
    have ov := (HO.out.below HX10.out).below H11.out
    have ot := SO9.out.below H11.out
    have hlen : bo.length = no := by rw [← bys_len]; exact ov.1
    have v1 : ∀ n, (convert 25 9 (.slice Ao no co)).run Try.prog (w11.drewN n) = .ok (.string (strOfNums bo)) (w11.drewN n) := fun n => by
      rw [← hlen]; exact src_conv (P := Try.prog) (w := w11.drewN n) (by rw [hlen]; exact ov) co _ _ Try.underlying25 Try.underlying5 _ Try.underlying9
    have v2 : ∀ n, (convert 25 9 (.slice ao9 no co9)).run Try.prog (w11.drewN n) = .ok (.string (strOfNums bo)) (w11.drewN n) := fun n => by
      rw [← hlen]; exact src_conv (P := Try.prog) (w := w11.drewN n) (by rw [hlen]; exact ot) co9 _ _ Try.underlying25 Try.underlying5 _ Try.underlying9
    have V1 := Lib.hid v1
    have V2 := Lib.hid v2
    clear ov ot hlen v1 v2
    by_cases h7 : 7 < nc
    · have j7 : (7 : Int) < (nc : Int) := by omega
      obtain ⟨b, off, hA, hc7⟩ := (HC.out.below HX10.out).below H11.out 7 h7
      subst hA
      have hq := skip7 fc nc a3 0 (fc 7) (if_pos h7) (by omega)
      rw [hq] at hrow7
      have wb1 := W_bd (fc 7)
      have wb2 := W_bd 0
      have hwr : IntKind.i64.wrap (W (fc 7) + W 0) = W (fc 7) + W 0 := IntWalk.i64_in _ (by omega)
      have HWR := Lib.hid hwr
      clear hq wb1 wb2 hwr
      go_wp2_with fail
      have hwr := HWR.out
      have v1 := V1.out
      have v2 := V2.out
      go_quiet (first | (go_at_call 19; exact quiet_left (refW_any _ _)) | (go_at_call 20; exact Calls.quiet_of (sameInts_true _ _ _ _ _ _ fr (by exact SR11.out) (by exact SS11.out) (by omega))))
      clear hwr v1 v2
      go_wp2_with fail
      go_ret
      exact ⟨rfl, below_drewN' HN.out _⟩
    · have j7 : (nc : Int) ≤ 7 := by omega
      have hq := skip7 fc nc a3 0 0 (if_neg h7) (by omega)
      rw [hq] at hrow7
      have wb1 := W_bd 0
      have wb2 := W_bd 0
      have hwr : IntKind.i64.wrap (W 0 + W 0) = W 0 + W 0 := IntWalk.i64_in _ (by omega)
      have HWR := Lib.hid hwr
      clear hq wb1 wb2 hwr
      go_wp2_with fail
      have hwr := HWR.out
      have v1 := V1.out
      have v2 := V2.out
      go_quiet (first | (go_at_call 19; exact quiet_left (refW_any _ _)) | (go_at_call 20; exact Calls.quiet_of (sameInts_true _ _ _ _ _ _ fr (by exact SR11.out) (by exact SS11.out) (by omega))))
      clear hwr v1 v2
      go_wp2_with fail
      go_ret
      exact ⟨rfl, below_drewN' HN.out _⟩
  · have nn : ¬ a3 < 0 := by omega
    go_upto_region 13 with fail
    rw [HW10.out]
    have hS : W10.drew.cell? ⟨bm, 24, none⟩ = some (.int .i64 (cv fc nc 7)) ∧ W10.drew.cell? ⟨bm, 25, none⟩ = some (.int .i64 (cv fc nc 8)) ∧ W10.drew.cell? ⟨w4.heap.size, 0, none⟩ = some (.slice ar4 nr cr4) ∧ W10.drew.cell? ⟨w4.heap.size, 1, none⟩ = some (.int .i64 pc) ∧ W10.drew.cell? ⟨w4.heap.size, 2, none⟩ = some (.slice ac4 nc cc4) ∧ W10.drew.cell? ⟨w4.heap.size, 3, none⟩ = some (.bool hl) ∧ W10.drew.cell? ⟨w4.heap.size, 4, none⟩ = some (.bool st) ∧ W10.drew.cell? ⟨w4.heap.size, 5, none⟩ = some (.slice ao4 no co4) ∧ W10.drew.cell? ⟨w.heap.size, 0, none⟩ = some (.slice Ar nr cr) ∧ W10.drew.cell? ⟨w.heap.size, 1, none⟩ = some (.int .i64 pc) ∧ W10.drew.cell? ⟨w.heap.size, 2, none⟩ = some (.slice Ac nc cc) ∧ W10.drew.cell? ⟨w.heap.size, 3, none⟩ = some (.bool hl) ∧ W10.drew.cell? ⟨w.heap.size, 4, none⟩ = some (.bool st) ∧ W10.drew.cell? ⟨w.heap.size, 5, none⟩ = some (.slice Ao no co) ∧ W10.drew.cell? ⟨w9.heap.size, 2, none⟩ = some (.slice (some ⟨g, 0, none⟩) M M) ∧ Below W10.heap.size W10 W10.drew := by
      obtain ⟨p0, p1, p2, p3, p4, p5, _⟩ := (HB5.out.below H510.out HB5.out.lt).cells
      obtain ⟨q0, q1, q2, q3, q4, q5, _⟩ := (HB0.out.below HE10.out HB0.out.lt).cells
      obtain ⟨r0, r1, r2, r3, r4, r5, _⟩ := HB10.out.cells
      exact ⟨cell_below H310.out _ _ X7.out, cell_below H310.out _ _ X8.out, p0, p1, p2, p3, p4, p5, q0, q1, q2, q3, q4, q5, r2, (Below.refl _ _).drew⟩
    have HS := Lib.hid hS
    clear hS
    go_region_held3 (fun w' => w'.cell? ⟨bm, 24, none⟩ = some (.int .i64 (cv fc nc 7)) ∧ w'.cell? ⟨bm, 25, none⟩ = some (.int .i64 (cv fc nc 8)) ∧ w'.cell? ⟨w4.heap.size, 0, none⟩ = some (.slice ar4 nr cr4) ∧ w'.cell? ⟨w4.heap.size, 1, none⟩ = some (.int .i64 pc) ∧ w'.cell? ⟨w4.heap.size, 2, none⟩ = some (.slice ac4 nc cc4) ∧ w'.cell? ⟨w4.heap.size, 3, none⟩ = some (.bool hl) ∧ w'.cell? ⟨w4.heap.size, 4, none⟩ = some (.bool st) ∧ w'.cell? ⟨w4.heap.size, 5, none⟩ = some (.slice ao4 no co4) ∧ w'.cell? ⟨w.heap.size, 0, none⟩ = some (.slice Ar nr cr) ∧ w'.cell? ⟨w.heap.size, 1, none⟩ = some (.int .i64 pc) ∧ w'.cell? ⟨w.heap.size, 2, none⟩ = some (.slice Ac nc cc) ∧ w'.cell? ⟨w.heap.size, 3, none⟩ = some (.bool hl) ∧ w'.cell? ⟨w.heap.size, 4, none⟩ = some (.bool st) ∧ w'.cell? ⟨w.heap.size, 5, none⟩ = some (.slice Ao no co) ∧ w'.cell? ⟨w9.heap.size, 2, none⟩ = some (.slice (some ⟨g, 0, none⟩) M M) ∧ Below W10.heap.size W10 w') (first | (with_reducible exact HS.out) | (with_reducible assumption) | (with_reducible exact keepT (by assumption) (by assumption)))
      (first
        | (go_at_call 17; go_must (refine (refPending_any _ _ _ _ _).mono ?_; rintro e w' ⟨rfl, rfl⟩))
        | (go_at_call 18; go_must (refine (stay_true _ _ _ _ _ _ _ _ _ _ _ _ _ _ _ _ _ _ _ _ fr fc bo (by exact HLR.out.below H510.out.drew) (by exact HLC.out.below H510.out.drew) (by exact HLO.out.below H510.out.drew) (by exact HR.out.below HX10.out.drew) (by exact HC.out.below HX10.out.drew) (by exact HO.out.below HX10.out.drew) (by omega) (by omega) (by omega)).mono ?_; rintro e w11 ⟨rfl, hb11⟩; have H11 := Lib.hid (undr hb11))))
    obtain ⟨g0, g1, g2, g3, g4, g5, _⟩ := ((HB0.out.below HE10.out HB0.out.lt).below H11.out (Nat.lt_of_lt_of_le HB0.out.lt HE10.out.size)).cells
    obtain ⟨t0, t1, t2, t3, t4, t5, _⟩ := (HB10.out.below H11.out HB10.out.lt).cells
    have hrow7 := (RW.out.below H11.out RW.out.lt).cell (k := 7) (by omega)
    have SR11 := Lib.hid (SR9.out.below H11.out)
    have SS11 := Lib.hid ((HR.out.below HX10.out).below H11.out)
    have HN := Lib.hid (HX10.out.trans (H11.out.mono HX10.out.size))
    have ov := (HO.out.below HX10.out).below H11.out
    have ot := SO9.out.below H11.out
    have hlen : bo.length = no := by rw [← bys_len]; exact ov.1
    have v1 : ∀ n, (convert 25 9 (.slice Ao no co)).run Try.prog (w11.drewN n) = .ok (.string (strOfNums bo)) (w11.drewN n) := fun n => by
      rw [← hlen]; exact src_conv (P := Try.prog) (w := w11.drewN n) (by rw [hlen]; exact ov) co _ _ Try.underlying25 Try.underlying5 _ Try.underlying9
    have v2 : ∀ n, (convert 25 9 (.slice ao9 no co9)).run Try.prog (w11.drewN n) = .ok (.string (strOfNums bo)) (w11.drewN n) := fun n => by
      rw [← hlen]; exact src_conv (P := Try.prog) (w := w11.drewN n) (by rw [hlen]; exact ot) co9 _ _ Try.underlying25 Try.underlying5 _ Try.underlying9
    have V1 := Lib.hid v1
    have V2 := Lib.hid v2
    clear ov ot hlen v1 v2
    by_cases h7 : 7 < nc
    · have j7 : (7 : Int) < (nc : Int) := by omega
      obtain ⟨b, off, hA, hc7⟩ := (HC.out.below HX10.out).below H11.out 7 h7
      subst hA
      have hq := skip7 fc nc a3 a3 (fc 7) (if_pos h7) (by omega)
      rw [hq] at hrow7
      have wb1 := W_bd (fc 7)
      have wb2 := W_bd a3
      have hwr : IntKind.i64.wrap (W (fc 7) + W a3) = W (fc 7) + W a3 := IntWalk.i64_in _ (by omega)
      have HWR := Lib.hid hwr
      clear hq wb1 wb2 hwr
      go_wp2_with fail
      have hwr := HWR.out
      have v1 := V1.out
      have v2 := V2.out
      go_quiet (first | (go_at_call 19; exact quiet_left (refW_any _ _)) | (go_at_call 20; exact Calls.quiet_of (sameInts_true _ _ _ _ _ _ fr (by exact SR11.out) (by exact SS11.out) (by omega))))
      clear hwr v1 v2
      go_wp2_with fail
      go_ret
      exact ⟨rfl, below_drewN' HN.out _⟩
    · have j7 : (nc : Int) ≤ 7 := by omega
      have hq := skip7 fc nc a3 a3 0 (if_neg h7) (by omega)
      rw [hq] at hrow7
      have wb1 := W_bd 0
      have wb2 := W_bd a3
      have hwr : IntKind.i64.wrap (W 0 + W a3) = W 0 + W a3 := IntWalk.i64_in _ (by omega)
      have HWR := Lib.hid hwr
      clear hq wb1 wb2 hwr
      go_wp2_with fail
      have hwr := HWR.out
      have v1 := V1.out
      have v2 := V2.out
      go_quiet (first | (go_at_call 19; exact quiet_left (refW_any _ _)) | (go_at_call 20; exact Calls.quiet_of (sameInts_true _ _ _ _ _ _ fr (by exact SR11.out) (by exact SS11.out) (by omega))))
      clear hwr v1 v2
      go_wp2_with fail
      go_ret
      exact ⟨rfl, below_drewN' HN.out _⟩
theorem out_big (w : World) (Ar Ac Ao : Option Addr) (nr cr nc cc no co : Nat) (pc : Int) (hl st : Bool) (a1 a2 a3 : Int) (hbig : bigB nr nc no = true) :
    Calls Try.prog 4 #[.agg #[.slice Ar nr cr, .int .i64 pc, .slice Ac nc cc, .bool hl, .bool st, .slice Ao no co], .int .i64 a1, .int .i64 a2, .int .i64 a3] w fun e w' => e = .returned (.bool true) ∧ Below w.heap.size w w' := by
  have HBG := Lib.hid hbig
  clear hbig
  obtain ⟨W0, hW0⟩ : ∃ W0, (w.alloc (Obj.cells #[.slice Ar nr cr, .int .i64 pc, .slice Ac nc cc, .bool hl, .bool st, .slice Ao no co] 43)) = W0 := ⟨_, rfl⟩
  have b0 : Box W0 w.heap.size 43 (.slice Ar nr cr) (.int .i64 pc) (.slice Ac nc cc) (.bool hl) (.bool st) (.slice Ao no co) := by rw [← hW0]; exact Box.new _ _ _ _ _ _ _ _
  have hbw : Below w.heap.size w W0 := by rw [← hW0]; exact (Below.refl _ _).alloc (Nat.le_refl _) _
  have HW0 := Lib.hid hW0
  have HB0 := Lib.hid b0
  have HBW := Lib.hid hbw
  clear hW0 b0 hbw
  go_enter Try.func4, Try.ntmps4
  go_wp2_with fail
  rw [HW0.out]
  refine (alive20 _).mono ?_
  rintro e w1 ⟨rfl, hb1⟩
  have HE1 := Lib.hid hb1
  clear hb1
  obtain ⟨g0, g1, g2, g3, g4, g5, _⟩ := (HB0.out.below HE1.out HB0.out.lt).cells
  go_wp2_with fail
  refine (big_any _ _ _ _ _ _ _ _ _ _ _ _ _).mono ?_
  rintro e w2 ⟨rfl, hb2⟩
  rw [HBG.out]
  have HE2 := Lib.hid (btrans HE1.out hb2)
  clear hb2 HE1 g0 g1 g2 g3 g4 g5
  go_wp2_with fail
  go_ret
  exact ⟨rfl, HBW.out.trans (HE2.out.mono HBW.out.size)⟩
theorem walk (Ar : Option Addr) (nr cr : Nat) (zr : List Int) (pc : Int) (Ac : Option Addr) (nc cc : Nat) (zc : List Int) (hl st : Bool) (Ao : Option Addr) (no co : Nat) (zo : List Int) (a1 : Int) (a2 : Int) (a3 : Int) (w : World) (rr : IsRow .i64 w Ar nr cr zr) (rc : IsRow .i64 w Ac nc cc zc) (ro : IsRow .u8 w Ao no co zo) (wpc : (Lit.int .i64 pc).wf = true) (w1 : (Lit.int .i64 a1).wf = true) (w2 : (Lit.int .i64 a2).wf = true) (w3 : (Lit.int .i64 a3).wf = true) :
    Calls Try.prog 4 #[.agg #[.slice Ar nr cr, .int .i64 pc, .slice Ac nc cc, .bool hl, .bool st, .slice Ao no co], .int .i64 a1, .int .i64 a2, .int .i64 a3] w fun e w' => e = .returned (.bool true) ∧ Below w.heap.size w w' := by
  by_cases hbig : bigB nr nc no = true
  · exact out_big w Ar Ac Ao nr cr nc cc no co pc hl st a1 a2 a3 hbig
  have hb2 : bigB nr nc no = false := by simpa using hbig
  exact core w Ar Ac Ao nr cr nc cc no co pc hl st _ _ _ a1 a2 a3 (isrow_ints rr) (isrow_ints rc) (isrow_bys ro) hb2

set_option maxRecDepth 100000 in
set_option maxHeartbeats 1000000 in
theorem lifted (os : Os) (started : os.Started) (H : Type) (enc : TypeId × Value → H) :
    ReturnsInHanded {} Try.checked os 4 .any (Rows.virqTellsSpec.pre6 enc Try.prog Try.f4 Rows.virqTellsRow.domain false) (Rows.virqTellsSpec.post enc Try.prog Try.f4 false true false false) := by
  refine returnsInHanded_of_change (C := Try.checked) own started (by kernel_rfl) Try.func4
    (ChangeSpec.witness6 (enc := enc) (C := Try.checked) false ⟨#[], #[.agg #[.slice none 0 0, .int .i64 0, .slice none 0 0, .bool false, .bool false, .slice none 0 0], .int .i64 0, .int .i64 0, .int .i64 0], []⟩ 8 (by kernel_rfl) (by kernel_rfl) (by kernel_rfl) (by kernel_rfl)) ?_
  intro W base args ds gs before hval0 hW hcnd _
  have hval : ∀ (j : Nat) t v, Try.f4.params[j]? = some t → args[j]? = some v → Value.okWide Try.prog W .any base t v := hval0
  have hW' := hW
  obtain ⟨p, q, hA0, hV, rfl, hfz, hnd⟩ := hW
  have hA : DataW.TrodAll enc Try.prog W 0 (fun _ => true) true Try.f4.params.toList args.toList ds p := hA0
  rw [Try.params4] at hA hval
  obtain ⟨v0, vs0, d0, ds0, p0, q0, hargs, rfl, rfl, h0, r0⟩ := trodAll_cons hA
  obtain ⟨v1, vs1, d1, ds1, p1, q1, rfl, rfl, rfl, h1, r1⟩ := trodAll_cons r0
  obtain ⟨v2, vs2, d2, ds2, p2, q2, rfl, rfl, rfl, h2, r2⟩ := trodAll_cons r1
  obtain ⟨v3, vs3, d3, ds3, p3, q3, rfl, rfl, rfl, h3, r3⟩ := trodAll_cons r2
  obtain ⟨rfl, rfl, rfl⟩ := trodAll_nil r3
  obtain rfl : args = #[v0, v1, v2, v3] := by cases args; simp_all
  obtain ⟨rfl, rfl⟩ := trodVars_none hV
  have k0 := h0
  have lt0 : ∀ x ∈ p0, x.block < W.heap.size := by obtain ⟨m, hm⟩ := k0; exact DataW.trod_lt m _ _ _ hm
  obtain ⟨Ar, nr, cr, zr, pc, Ac, nc, cc, zc, hl, st, Ao, no, co, zo, rfl, rr, rc, ro, wpc⟩ := open_state Try.underlying43 (by kernel_rfl) (by kernel_rfl) Try.underlying41 Try.underlying3 (by kernel_rfl) Try.underlying4 Try.underlying25 Try.underlying5 (by kernel_rfl) (hval 0 43 v0 rfl rfl) h0
  obtain ⟨a1, rfl, rfl, rfl, w1⟩ := open_int Try.underlying3 (hval 1 3 v1 rfl rfl) h1
  obtain ⟨a2, rfl, rfl, rfl, w2⟩ := open_int Try.underlying3 (hval 2 3 v2 rfl rfl) h2
  obtain ⟨a3, rfl, rfl, rfl, w3⟩ := open_int Try.underlying3 (hval 3 3 v3 rfl rfl) h3
  clear hA0 hval0
  refine (walk Ar nr cr zr pc Ac nc cc zc hl st Ao no co zo a1 a2 a3 W rr rc ro wpc w1 w2 w3).mono fun e W' ⟨he, bel⟩ => ?_
  subst he
  exact ⟨_, rfl, _, _, _, [], _, [], hW', trodAll_mk1 (shut_bool Try.underlying4 _), (trodAll_cons_mk (Below.trod laidOut (by kernel_rfl) (of_decide_eq_true (by kernel_rfl)) k0 bel lt0) (trodAll_cons_mk (shut_int Try.underlying3 w1) (trodAll_cons_mk (shut_int Try.underlying3 w2) (trodAll_cons_mk (shut_int Try.underlying3 w3) trodAll_mk0)))), rfl, bel.frame _, fun h => by cases h⟩

theorem over : Rows.virqTellsRow.holds Try.pinned (OpenSpec.ofChange Rows.virqTellsSpec) :=
  OpenClaim.holds_of_wide 4 Try.f4 rfl rfl rfl rfl rfl rfl rfl ⟨rfl, rfl, rfl, rfl, rfl⟩ rfl rfl rfl rfl rfl (by kernel_rfl) Try.func4 (by kernel_rfl)
    (of_decide_eq_true (by kernel_rfl)) (by unfold Func.isWrapper; first | (rw [if_pos (by decide +kernel)]; kernel_rfl) | (rw [if_neg (by decide +kernel)]; exact ⟨rfl, rfl⟩))
    (fun os started H enc _ => lifted os started H enc)

theorem proved : Rows.VirqTellsSaid := over
#print axioms proved
end Go.Proofs.Ytdnmjhkgibaadaa.virqTells
