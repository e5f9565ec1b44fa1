/- Proved: the Go law 'trunnionlaw9.CpuBack' returns true for every input and leaves its arguments as they were (the given statement Rows.CpuBackSaid). No conditions. -/
import Derived.Test.YtodkenbkogfefaaRows
import Derived.Test.YtodkenbkogfefaaOpenSt
import Derived.Test.YtodkenbkogfefaaEnter
import Derived.Test.YtodkenbkogfefaaSame
import Derived.Test.YtodkenbkogfefaaCpuAcc
import Derived.WalkKit
import Derived.ProofKit
import Derived.OpenShut
import Derived.ShutString
import Derived.ChangeOld
import Derived.Below
namespace Go.Proofs.Ytodkenbkogfefaa.cpuBack
open Go.ChangeShapes Go.WideShapes Go.ChangeAt Go.RowKit
set_option linter.unusedVariables false

theorem own : ownKnob Try.prog.godebug = none := by kernel_rfl
theorem laidOut : laidOutB Try.prog = true := by kernel_rfl

theorem back_facts (fc : Nat → Int) (nc : Nat) (pc a1 a2 : Int) (h : 11 ≤ nc) :
    W (exC (entF fc nc pc a1 a2) nc 2) = W pc ∧ bits .and .i64 (leaF (entF fc nc pc a1 a2) nc 0) 5 = bits .and .i64 (fc 0) 5 := by
  have e2 : exC (entF fc nc pc a1 a2) nc 2 = W pc := by
    unfold exC; rw [if_pos (by omega)]; rfl
  have e0 : leaF (entF fc nc pc a1 a2) nc 0 = leaveS (enterS (fc 0)) := by
    unfold leaF entF exC; simp [show 0 < nc by omega]
  refine ⟨by rw [e2, W_W], ?_⟩
  rw [e0, and_5, and_5]
  unfold leaveS enterS
  omega
theorem quiet_left {P : Program} {f : FuncId} {args : Array Value} {w : World} {n : Nat} {v : Value}
    (h : Calls P f args (w.drewN n) fun e w' => e = .returned v ∧ w.drewN n = w') : Calls P f args (w.drewN n) fun e w'' => e = .returned v ∧ ∃ m, w'' = w.drewN m :=
  h.mono fun _ _ ⟨he, hm⟩ => ⟨he, n, hm.symm⟩
theorem below_drewN {B : Nat} {w w' : World} (h : Below B w w') (n : Nat) : Below B w (w'.drewN n) := ⟨h.os, h.tape, h.output, h.size, h.block⟩
set_option maxRecDepth 100000 in
set_option maxHeartbeats 4000000 in
theorem core (w : World) (Ar Ac Ao : Option Addr) (nr cr nc cc no co : Nat) (pc : Int) (hl st : Bool) (fr fc : Nat → Int) (bo : List Int) (a1 a2 : Int)
    (hr : IntsAt w Ar nr fr) (hrn : Ar = none → cr = 0) (hc : IntsAt w Ac nc fc) (ho : Src w Ao no (bys bo)) (hon : Ao = none → co = 0) (hbig : bigB nr nc no = false) (h11 : 11 ≤ nc) :
    Calls Try.prog 9 #[.agg #[.slice Ar nr cr, .int .i64 pc, .slice Ac nc cc, .bool hl, .bool st, .slice Ao no co], .int .i64 a1, .int .i64 a2] w fun e w' => e = .returned (.bool true) ∧ Below w.heap.size w w' := by
  obtain ⟨l1, l2, l3⟩ := big_no hbig
  obtain ⟨q1, q2⟩ := back_facts fc nc pc a1 a2 h11
  have HQ1 := Lib.hid q1
  have HQ2 := Lib.hid q2
  have HBG := Lib.hid hbig
  have HR := Lib.hid hr
  have HC := Lib.hid hc
  have HO := Lib.hid ho
  clear hr hc ho hbig q1 q2
  obtain ⟨W0, hW0⟩ : ∃ W0, (w.alloc (Obj.cells #[.slice Ar nr cr, .int .i64 pc, .slice Ac nc cc, .bool hl, .bool st, .slice Ao no co] 37)) = W0 := ⟨_, rfl⟩
  have b0 : Box W0 w.heap.size 37 (.slice Ar nr cr) (.int .i64 pc) (.slice Ac nc cc) (.bool hl) (.bool st) (.slice Ao no co) := by rw [← hW0]; exact Box.new _ _ _ _ _ _ _ _
  have hbw : Below w.heap.size w W0 := by rw [← hW0]; exact (Below.refl _ _).alloc (Nat.le_refl _) _
  have HW0 := Lib.hid hW0
  have HB0 := Lib.hid b0
  have HBW := Lib.hid hbw
  clear hW0 b0 hbw
  go_enter Try.func9, Try.ntmps9
  go_wp2_with fail
  rw [HW0.out]
  refine (alive9 _).mono ?_
  rintro e w1 ⟨rfl, hb1⟩
  have HE1 := Lib.hid hb1
  clear hb1
  obtain ⟨g0, g1, g2, g3, g4, g5, _⟩ := (HB0.out.below HE1.out HB0.out.lt).cells
  go_wp2_with fail
  refine (big_any _ _ _ _ _ _ _ _ _ _ _ _ _).mono ?_
  rintro e w2 ⟨rfl, hb2⟩
  rw [HBG.out]
  have HE2 := Lib.hid (btrans HE1.out hb2)
  clear hb2 HE1 g0 g1 g2 g3 g4 g5
  obtain ⟨g0, g1, g2, g3, g4, g5, _⟩ := (HB0.out.below HE2.out HB0.out.lt).cells
  have d11 : decide ((nc : Int) < 11) = false := by simp; omega
  go_wp2_with fail
  refine (enterSt_any _ _ _ _ _ _ _ _ _ _ _ _ _ fr fc bo _ _ ((HR.out.below HBW.out).below HE2.out) hrn (by omega) ((HC.out.below HBW.out).below HE2.out) (by omega) ((HO.out.below HBW.out).below HE2.out) hon (by omega)).mono ?_
  rintro e w3 ⟨c3, ar, cr', ac, cc', ao, co', rfl, oR, oC, oO, hb3⟩
  rw [show max 11 nc = nc by omega] at oC ⊢
  have HE3 := Lib.hid (btrans HE2.out hb3)
  have IR := Lib.hid (own_ints oR)
  have IC := Lib.hid (own_ints oC)
  have IO := Lib.hid (own_src oO (bys_one _))
  have NR := Lib.hid oR.nilcap
  have NO := Lib.hid oO.nilcap
  clear hb3 HE2 g0 g1 g2 g3 g4 g5 oR oC oO
  go_wp2_with fail
  refine (leaveSt_any _ _ _ _ _ _ _ _ _ _ _ _ _ fr (entF fc nc pc a1 a2) bo IR.out NR.out (by omega) IC.out (by omega) IO.out NO.out (by omega)).mono ?_
  rintro e w4 ⟨c4, ar4, cr4, ac4, cc4, ao4, co4, rfl, oR, oC, oO, hb4⟩
  rw [show max 11 nc = nc by omega] at oC ⊢
  rw [HQ1.out]
  have HE4 := Lib.hid (btrans HE3.out hb4)
  have JR := Lib.hid (own_ints oR)
  have JC := Lib.hid (own_ints oC)
  clear hb4 HE3 oR oC oO IR IC IO NR NO
  obtain ⟨b5, off5, rfl, hc5⟩ := JC.out 0 (by omega)
  obtain ⟨b6, off6, rfl, hc6⟩ := (((HC.out.below HBW.out).below HE4.out)) 0 (by omega)
  obtain ⟨g0, g1, g2, g3, g4, g5, _⟩ := (HB0.out.below HE4.out HB0.out.lt).cells
  go_wp2_with fail
  clear g0 g1 g2 g3 g4 g5
  obtain ⟨W5, hW5⟩ : ∃ W5, (w4.alloc (Obj.cells #[.slice ar4 nr cr4, .int .i64 (W pc), .slice (some ⟨b5, off5, none⟩) nc cc4, .bool hl, .bool st, .slice ao4 no co4] 37)) = W5 := ⟨_, rfl⟩
  have b1 : Box W5 w4.heap.size 37 (.slice ar4 nr cr4) (.int .i64 (W pc)) (.slice (some ⟨b5, off5, none⟩) nc cc4) (.bool hl) (.bool st) (.slice ao4 no co4) := by rw [← hW5]; exact Box.new _ _ _ _ _ _ _ _
  have hb5 : Below w4.heap.size w4 W5 := by rw [← hW5]; exact (Below.refl _ _).alloc (Nat.le_refl _) _
  rw [hW5]
  have HE5 := Lib.hid (btrans HE4.out hb5)
  obtain ⟨g0, g1, g2, g3, g4, g5, _⟩ := (HB0.out.below HE5.out HB0.out.lt).cells
  obtain ⟨k0, k1, k2, k3, k4, k5, _⟩ := b1.cells
  have x5 : W5.cell? ⟨b5, off5, none⟩ = some (.int .i64 (leaF (entF fc nc pc a1 a2) nc 0)) := cell_below hb5 _ _ hc5
  have x6 : W5.cell? ⟨b6, off6, none⟩ = some (.int .i64 (fc 0)) := cell_below hb5 _ _ hc6
  have SR := Lib.hid ((HR.out.below HBW.out).below HE5.out)
  have SR2 := Lib.hid (JR.out.below hb5)
  have d2 : (11 : Int) ≤ nc := by omega
  have d3 : (0 : Int) < nc := by omega
  have d4 : 0 < nc := by omega
  have q2 := HQ2.out
  have HBN := Lib.hid ((HBW.out.trans (HE5.out.mono HBW.out.size)))
  clear b1 hb5 hW5 hc5 hc6 HE4 HE5 JR JC
  go_quiet (first | (go_at_call 17; exact quiet_left (refW_any _ _)) | (go_at_call 31; exact Calls.quiet_of (sameInts_true _ _ _ _ _ _ fr SR2.out SR.out (by omega))))
  go_wp2_with fail
  go_ret
  exact ⟨rfl, below_drewN HBN.out _⟩
theorem out_big (w : World) (Ar Ac Ao : Option Addr) (nr cr nc cc no co : Nat) (pc : Int) (hl st : Bool) (a1 a2 : Int) (hbig : bigB nr nc no = true) :
    Calls Try.prog 9 #[.agg #[.slice Ar nr cr, .int .i64 pc, .slice Ac nc cc, .bool hl, .bool st, .slice Ao no co], .int .i64 a1, .int .i64 a2] w fun e w' => e = .returned (.bool true) ∧ Below w.heap.size w w' := by
  have HBG := Lib.hid hbig
  clear hbig
  obtain ⟨W0, hW0⟩ : ∃ W0, (w.alloc (Obj.cells #[.slice Ar nr cr, .int .i64 pc, .slice Ac nc cc, .bool hl, .bool st, .slice Ao no co] 37)) = W0 := ⟨_, rfl⟩
  have b0 : Box W0 w.heap.size 37 (.slice Ar nr cr) (.int .i64 pc) (.slice Ac nc cc) (.bool hl) (.bool st) (.slice Ao no co) := by rw [← hW0]; exact Box.new _ _ _ _ _ _ _ _
  have hbw : Below w.heap.size w W0 := by rw [← hW0]; exact (Below.refl _ _).alloc (Nat.le_refl _) _
  have HW0 := Lib.hid hW0
  have HB0 := Lib.hid b0
  have HBW := Lib.hid hbw
  clear hW0 b0 hbw
  go_enter Try.func9, Try.ntmps9
  go_wp2_with fail
  rw [HW0.out]
  refine (alive9 _).mono ?_
  rintro e w1 ⟨rfl, hb1⟩
  have HE1 := Lib.hid hb1
  clear hb1
  obtain ⟨g0, g1, g2, g3, g4, g5, _⟩ := (HB0.out.below HE1.out HB0.out.lt).cells
  go_wp2_with fail
  refine (big_any _ _ _ _ _ _ _ _ _ _ _ _ _).mono ?_
  rintro e w2 ⟨rfl, hb2⟩
  rw [HBG.out]
  have HE2 := Lib.hid (btrans HE1.out hb2)
  clear hb2 HE1 g0 g1 g2 g3 g4 g5
  go_wp2_with fail
  go_ret
  exact ⟨rfl, HBW.out.trans (HE2.out.mono HBW.out.size)⟩
theorem out_few (w : World) (Ar Ac Ao : Option Addr) (nr cr nc cc no co : Nat) (pc : Int) (hl st : Bool) (a1 a2 : Int) (hbig : bigB nr nc no = false) (h11 : nc < 11) :
    Calls Try.prog 9 #[.agg #[.slice Ar nr cr, .int .i64 pc, .slice Ac nc cc, .bool hl, .bool st, .slice Ao no co], .int .i64 a1, .int .i64 a2] w fun e w' => e = .returned (.bool true) ∧ Below w.heap.size w w' := by
  have HBG := Lib.hid hbig
  clear hbig
  obtain ⟨W0, hW0⟩ : ∃ W0, (w.alloc (Obj.cells #[.slice Ar nr cr, .int .i64 pc, .slice Ac nc cc, .bool hl, .bool st, .slice Ao no co] 37)) = W0 := ⟨_, rfl⟩
  have b0 : Box W0 w.heap.size 37 (.slice Ar nr cr) (.int .i64 pc) (.slice Ac nc cc) (.bool hl) (.bool st) (.slice Ao no co) := by rw [← hW0]; exact Box.new _ _ _ _ _ _ _ _
  have hbw : Below w.heap.size w W0 := by rw [← hW0]; exact (Below.refl _ _).alloc (Nat.le_refl _) _
  have HW0 := Lib.hid hW0
  have HB0 := Lib.hid b0
  have HBW := Lib.hid hbw
  clear hW0 b0 hbw
  go_enter Try.func9, Try.ntmps9
  go_wp2_with fail
  rw [HW0.out]
  refine (alive9 _).mono ?_
  rintro e w1 ⟨rfl, hb1⟩
  have HE1 := Lib.hid hb1
  clear hb1
  obtain ⟨g0, g1, g2, g3, g4, g5, _⟩ := (HB0.out.below HE1.out HB0.out.lt).cells
  go_wp2_with fail
  refine (big_any _ _ _ _ _ _ _ _ _ _ _ _ _).mono ?_
  rintro e w2 ⟨rfl, hb2⟩
  rw [HBG.out]
  have HE2 := Lib.hid (btrans HE1.out hb2)
  clear hb2 HE1 g0 g1 g2 g3 g4 g5
  obtain ⟨g0, g1, g2, g3, g4, g5, _⟩ := (HB0.out.below HE2.out HB0.out.lt).cells
  have d1 : (nc : Int) < 11 := by omega
  go_wp2_with fail
  go_ret
  exact ⟨rfl, HBW.out.trans (HE2.out.mono HBW.out.size)⟩
theorem walk (Ar : Option Addr) (nr cr : Nat) (zr : List Int) (pc : Int) (Ac : Option Addr) (nc cc : Nat) (zc : List Int) (hl st : Bool) (Ao : Option Addr) (no co : Nat) (zo : List Int) (a1 : Int) (a2 : Int) (w : World) (rr : IsRow .i64 w Ar nr cr zr) (rc : IsRow .i64 w Ac nc cc zc) (ro : IsRow .u8 w Ao no co zo) (wpc : (Lit.int .i64 pc).wf = true) (w1 : (Lit.int .i64 a1).wf = true) (w2 : (Lit.int .i64 a2).wf = true) :
    Calls Try.prog 9 #[.agg #[.slice Ar nr cr, .int .i64 pc, .slice Ac nc cc, .bool hl, .bool st, .slice Ao no co], .int .i64 a1, .int .i64 a2] w fun e w' => e = .returned (.bool true) ∧ Below w.heap.size w w' := by
  obtain ⟨hrn, _, _⟩ := isrow_len rr
  obtain ⟨hon, _, _⟩ := isrow_len ro
  by_cases hbig : bigB nr nc no = true
  · exact out_big w Ar Ac Ao nr cr nc cc no co pc hl st a1 a2 hbig
  have hb2 : bigB nr nc no = false := by simpa using hbig
  by_cases h11 : nc < 11
  · exact out_few w Ar Ac Ao nr cr nc cc no co pc hl st a1 a2 hb2 h11
  exact core w Ar Ac Ao nr cr nc cc no co pc hl st _ _ _ a1 a2 (isrow_ints rr) hrn (isrow_ints rc) (isrow_bys ro) hon hb2 (by omega)

set_option maxRecDepth 100000 in
set_option maxHeartbeats 1000000 in
theorem lifted (os : Os) (started : os.Started) (H : Type) (enc : TypeId × Value → H) :
    ReturnsInHanded {} Try.checked os 9 .any (Rows.cpuBackSpec.pre6 enc Try.prog Try.f9 Rows.cpuBackRow.domain false) (Rows.cpuBackSpec.post enc Try.prog Try.f9 false true false false) := by
  refine returnsInHanded_of_change (C := Try.checked) own started (by kernel_rfl) Try.func9
    (ChangeSpec.witness6 (enc := enc) (C := Try.checked) false ⟨#[], #[.agg #[.slice none 0 0, .int .i64 0, .slice none 0 0, .bool false, .bool false, .slice none 0 0], .int .i64 0, .int .i64 0], []⟩ 8 (by kernel_rfl) (by kernel_rfl) (by kernel_rfl) (by kernel_rfl)) ?_
  intro W base args ds gs before hval0 hW hcnd _
  have hval : ∀ (j : Nat) t v, Try.f9.params[j]? = some t → args[j]? = some v → Value.okWide Try.prog W .any base t v := hval0
  have hW' := hW
  obtain ⟨p, q, hA0, hV, rfl, hfz, hnd⟩ := hW
  have hA : DataW.TrodAll enc Try.prog W 0 (fun _ => true) true Try.f9.params.toList args.toList ds p := hA0
  rw [Try.params9] at hA hval
  obtain ⟨v0, vs0, d0, ds0, p0, q0, hargs, rfl, rfl, h0, r0⟩ := trodAll_cons hA
  obtain ⟨v1, vs1, d1, ds1, p1, q1, rfl, rfl, rfl, h1, r1⟩ := trodAll_cons r0
  obtain ⟨v2, vs2, d2, ds2, p2, q2, rfl, rfl, rfl, h2, r2⟩ := trodAll_cons r1
  obtain ⟨rfl, rfl, rfl⟩ := trodAll_nil r2
  obtain rfl : args = #[v0, v1, v2] := by cases args; simp_all
  obtain ⟨rfl, rfl⟩ := trodVars_none hV
  have k0 := h0
  have lt0 : ∀ x ∈ p0, x.block < W.heap.size := by obtain ⟨m, hm⟩ := k0; exact DataW.trod_lt m _ _ _ hm
  obtain ⟨Ar, nr, cr, zr, pc, Ac, nc, cc, zc, hl, st, Ao, no, co, zo, rfl, rr, rc, ro, wpc⟩ := open_state Try.underlying37 (by kernel_rfl) (by kernel_rfl) Try.underlying27 Try.underlying3 (by kernel_rfl) Try.underlying4 Try.underlying35 Try.underlying5 (by kernel_rfl) (hval 0 37 v0 rfl rfl) h0
  obtain ⟨a1, rfl, rfl, rfl, w1⟩ := open_int Try.underlying3 (hval 1 3 v1 rfl rfl) h1
  obtain ⟨a2, rfl, rfl, rfl, w2⟩ := open_int Try.underlying3 (hval 2 3 v2 rfl rfl) h2
  clear hA0 hval0
  refine (walk Ar nr cr zr pc Ac nc cc zc hl st Ao no co zo a1 a2 W rr rc ro wpc w1 w2).mono fun e W' ⟨he, bel⟩ => ?_
  subst he
  exact ⟨_, rfl, _, _, _, [], _, [], hW', trodAll_mk1 (shut_bool Try.underlying4 _), (trodAll_cons_mk (Below.trod laidOut (by kernel_rfl) (of_decide_eq_true (by kernel_rfl)) k0 bel lt0) (trodAll_cons_mk (shut_int Try.underlying3 w1) (trodAll_cons_mk (shut_int Try.underlying3 w2) trodAll_mk0))), rfl, bel.frame _, fun h => by cases h⟩

theorem over : Rows.cpuBackRow.holds Try.pinned (OpenSpec.ofChange Rows.cpuBackSpec) :=
  OpenClaim.holds_of_wide 9 Try.f9 rfl rfl rfl rfl rfl rfl rfl ⟨rfl, rfl, rfl, rfl, rfl⟩ rfl rfl rfl rfl rfl (by kernel_rfl) Try.func9 (by kernel_rfl)
    (of_decide_eq_true (by kernel_rfl)) (by unfold Func.isWrapper; first | (rw [if_pos (by decide +kernel)]; kernel_rfl) | (rw [if_neg (by decide +kernel)]; exact ⟨rfl, rfl⟩))
    (fun os started H enc _ => lifted os started H enc)

theorem proved : Rows.CpuBackSaid := over
#print axioms proved
end Go.Proofs.Ytodkenbkogfefaa.cpuBack
