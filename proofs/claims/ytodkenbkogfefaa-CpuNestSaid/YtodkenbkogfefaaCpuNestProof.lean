/- Proved: the Go law 'trunnionlaw9.CpuNest' returns true for every input and leaves its arguments as they were (the given statement Rows.CpuNestSaid). No conditions. -/
import Derived.Test.YtodkenbkogfefaaRows
import Derived.Test.YtodkenbkogfefaaOpenSt
import Derived.Test.YtodkenbkogfefaaEnter
import Derived.Test.YtodkenbkogfefaaSame
import Derived.Test.YtodkenbkogfefaaCpuAcc
import Derived.WalkKit
import Derived.ProofKit
import Derived.OpenShut
import Derived.ShutString
import Derived.ChangeOld
import Derived.Below
namespace Go.Proofs.Ytodkenbkogfefaa.cpuNest
open Go.ChangeShapes Go.WideShapes Go.ChangeAt Go.RowKit
set_option linter.unusedVariables false

theorem own : ownKnob Try.prog.godebug = none := by kernel_rfl
theorem laidOut : laidOutB Try.prog = true := by kernel_rfl

theorem nest_facts (fc : Nat → Int) (nc : Nat) (pc a1 a2 : Int) (h : 11 ≤ nc) :
    entF (entF fc nc pc a1 1) nc (W (exC fc nc 1)) a2 2 2 = W (fc 1) ∧ entF (entF fc nc pc a1 1) nc (W (exC fc nc 1)) a2 2 3 = W a2 ∧ entF (entF fc nc pc a1 1) nc (W (exC fc nc 1)) a2 2 4 = 2 ∧ entF (entF fc nc pc a1 1) nc (W (exC fc nc 1)) a2 2 0 = 12 ∧ leaF (entF (entF fc nc pc a1 1) nc (W (exC fc nc 1)) a2 2) nc 0 = 6 := by
  have e0 : entF (entF fc nc pc a1 1) nc (W (exC fc nc 1)) a2 2 0 = 12 := by
    unfold entF exC; simp [show 0 < nc by omega]; unfold enterS; omega
  refine ⟨?_, rfl, rfl, e0, ?_⟩
  · show W (W (exC fc nc 1)) = _
    rw [W_W]; unfold exC; rw [if_pos (by omega)]
  · have e1 : ∀ g : Nat → Int, leaF g nc 0 = leaveS (g 0) := fun g => by unfold leaF exC; rw [if_pos rfl, if_pos (by omega)]
    rw [e1, e0]; decide
theorem quiet_left {P : Program} {f : FuncId} {args : Array Value} {w : World} {n : Nat} {v : Value}
    (h : Calls P f args (w.drewN n) fun e w' => e = .returned v ∧ w.drewN n = w') : Calls P f args (w.drewN n) fun e w'' => e = .returned v ∧ ∃ m, w'' = w.drewN m :=
  h.mono fun _ _ ⟨he, hm⟩ => ⟨he, n, hm.symm⟩
theorem below_drewN {B : Nat} {w w' : World} (h : Below B w w') (n : Nat) : Below B w (w'.drewN n) := ⟨h.os, h.tape, h.output, h.size, h.block⟩
set_option maxRecDepth 100000 in
set_option maxHeartbeats 4000000 in
theorem core (w : World) (Ar Ac Ao : Option Addr) (nr cr nc cc no co : Nat) (pc : Int) (hl st : Bool) (fr fc : Nat → Int) (bo : List Int) (a1 a2 : Int)
    (hr : IntsAt w Ar nr fr) (hrn : Ar = none → cr = 0) (hc : IntsAt w Ac nc fc) (ho : Src w Ao no (bys bo)) (hon : Ao = none → co = 0) (hbig : bigB nr nc no = false) (h11 : 11 ≤ nc) :
    Calls Try.prog 10 #[.agg #[.slice Ar nr cr, .int .i64 pc, .slice Ac nc cc, .bool hl, .bool st, .slice Ao no co], .int .i64 a1, .int .i64 a2] w fun e w' => e = .returned (.bool true) ∧ Below w.heap.size w w' := by
  obtain ⟨l1, l2, l3⟩ := big_no hbig
  have HQ := Lib.hid (nest_facts fc nc pc a1 a2 h11)
  have HBG := Lib.hid hbig
  have HR := Lib.hid hr
  have HC := Lib.hid hc
  have HO := Lib.hid ho
  clear hr hc ho hbig
  obtain ⟨W0, hW0⟩ : ∃ W0, (w.alloc (Obj.cells #[.slice Ar nr cr, .int .i64 pc, .slice Ac nc cc, .bool hl, .bool st, .slice Ao no co] 37)) = W0 := ⟨_, rfl⟩
  have b0 : Box W0 w.heap.size 37 (.slice Ar nr cr) (.int .i64 pc) (.slice Ac nc cc) (.bool hl) (.bool st) (.slice Ao no co) := by rw [← hW0]; exact Box.new _ _ _ _ _ _ _ _
  have hbw : Below w.heap.size w W0 := by rw [← hW0]; exact (Below.refl _ _).alloc (Nat.le_refl _) _
  have HW0 := Lib.hid hW0
  have HB0 := Lib.hid b0
  have HBW := Lib.hid hbw
  clear hW0 b0 hbw
  go_enter Try.func10, Try.ntmps10
  go_wp2_with fail
  rw [HW0.out]
  refine (alive9 _).mono ?_
  rintro e w1 ⟨rfl, hb1⟩
  have HE1 := Lib.hid hb1
  clear hb1
  obtain ⟨g0, g1, g2, g3, g4, g5, _⟩ := (HB0.out.below HE1.out HB0.out.lt).cells
  go_wp2_with fail
  refine (big_any _ _ _ _ _ _ _ _ _ _ _ _ _).mono ?_
  rintro e w2 ⟨rfl, hb2⟩
  rw [HBG.out]
  have HE2 := Lib.hid (btrans HE1.out hb2)
  clear hb2 HE1 g0 g1 g2 g3 g4 g5
  obtain ⟨g0, g1, g2, g3, g4, g5, _⟩ := (HB0.out.below HE2.out HB0.out.lt).cells
  have d11 : decide ((nc : Int) < 11) = false := by simp; omega
  go_wp2_with fail
  refine (enterSt_any _ _ _ _ _ _ _ _ _ _ _ _ _ fr fc bo _ _ ((HR.out.below HBW.out).below HE2.out) hrn (by omega) ((HC.out.below HBW.out).below HE2.out) (by omega) ((HO.out.below HBW.out).below HE2.out) hon (by omega)).mono ?_
  rintro e w3 ⟨c3, ar, cr', ac, cc', ao, co', rfl, oR, oC, oO, hb3⟩
  rw [show max 11 nc = nc by omega] at oC ⊢
  have HE3 := Lib.hid (btrans HE2.out hb3)
  have IR := Lib.hid (own_ints oR)
  have IC := Lib.hid (own_ints oC)
  have IO := Lib.hid (own_src oO (bys_one _))
  have NR := Lib.hid oR.nilcap
  have NO := Lib.hid oO.nilcap
  clear hb3 HE2 g0 g1 g2 g3 g4 g5 oR oC oO
  go_wp2_with fail
  refine (enterSt_any _ _ _ _ _ _ _ _ _ _ _ _ _ fr (entF fc nc pc a1 1) bo _ _ IR.out NR.out (by omega) IC.out (by omega) IO.out NO.out (by omega)).mono ?_
  rintro e w4 ⟨c4, ar4, cr4, ac4, cc4, ao4, co4, rfl, oR, oC, oO, hb4⟩
  rw [show max 11 nc = nc by omega] at oC ⊢
  obtain ⟨pc4, hpc4⟩ : ∃ pc4, W (exC (entF fc nc pc a1 1) nc 1) = pc4 := ⟨_, rfl⟩
  rw [hpc4]
  clear hpc4
  have HE4 := Lib.hid (btrans HE3.out hb4)
  have JR := Lib.hid (own_ints oR)
  have JC := Lib.hid (own_ints oC)
  have JO := Lib.hid (own_src oO (bys_one _))
  have MR := Lib.hid oR.nilcap
  have MO := Lib.hid oO.nilcap
  clear hb4 HE3 oR oC oO IR IC IO NR NO
  obtain ⟨W5, hW5⟩ : ∃ W5, (w4.alloc (Obj.cells #[.slice ar4 nr cr4, .int .i64 pc4, .slice ac4 nc cc4, .bool hl, .bool st, .slice ao4 no co4] 37)) = W5 := ⟨_, rfl⟩
  have b1 : Box W5 w4.heap.size 37 (.slice ar4 nr cr4) (.int .i64 pc4) (.slice ac4 nc cc4) (.bool hl) (.bool st) (.slice ao4 no co4) := by rw [← hW5]; exact Box.new _ _ _ _ _ _ _ _
  have hb5 : Below w4.heap.size w4 W5 := by rw [← hW5]; exact (Below.refl _ _).alloc (Nat.le_refl _) _
  have HE5 := Lib.hid (btrans HE4.out hb5)
  have HW5 := Lib.hid hW5
  have HB1 := Lib.hid b1
  have HH5 := Lib.hid hb5
  clear hW5 b1 hb5
  go_wp2_with fail
  rw [HW5.out]
  refine (leaveSt_any _ _ _ _ _ _ _ _ _ _ _ _ _ fr (entF (entF fc nc pc a1 1) nc (W (exC fc nc 1)) a2 2) bo (JR.out.below HH5.out) MR.out (by omega) (JC.out.below HH5.out) (by omega) (JO.out.below HH5.out) MO.out (by omega)).mono ?_
  rintro e w6 ⟨c6, ar6, cr6, ac6, cc6, ao6, co6, rfl, oR, oC, oO, hb6⟩
  rw [show max 11 nc = nc by omega] at oC ⊢
  obtain ⟨pc6, hpc6⟩ : ∃ pc6, W (exC (entF (entF fc nc pc a1 1) nc (W (exC fc nc 1)) a2 2) nc 2) = pc6 := ⟨_, rfl⟩
  rw [hpc6]
  clear hpc6
  have HE6 := Lib.hid (btrans HE5.out hb6)
  have HH6 := Lib.hid (btrans HH5.out hb6)
  have HB6 := Lib.hid (HB1.out.below hb6 HB1.out.lt)
  have KC := Lib.hid (own_ints oC)
  clear hb6 HE5 oR oC oO HB1 JR JO
  obtain ⟨W7, hW7⟩ : ∃ W7, (w6.alloc (Obj.cells #[.slice ar6 nr cr6, .int .i64 pc6, .slice ac6 nc cc6, .bool hl, .bool st, .slice ao6 no co6] 37)) = W7 := ⟨_, rfl⟩
  have b2 : Box W7 w6.heap.size 37 (.slice ar6 nr cr6) (.int .i64 pc6) (.slice ac6 nc cc6) (.bool hl) (.bool st) (.slice ao6 no co6) := by rw [← hW7]; exact Box.new _ _ _ _ _ _ _ _
  have hb7 : Below w6.heap.size w6 W7 := by rw [← hW7]; exact (Below.refl _ _).alloc (Nat.le_refl _) _
  have HE7 := Lib.hid (btrans HE6.out hb7)
  obtain ⟨q2, q3, q4, q0, q6⟩ := HQ.out
  obtain ⟨b5, off5, h5, hc5⟩ := (JC.out.below HH6.out).below hb7 2 (by omega)
  obtain ⟨_, _, h53, hc53⟩ := (JC.out.below HH6.out).below hb7 3 (by omega)
  obtain ⟨_, _, h54, hc54⟩ := (JC.out.below HH6.out).below hb7 4 (by omega)
  obtain ⟨_, _, h50, hc50⟩ := (JC.out.below HH6.out).below hb7 0 (by omega)
  rw [h5] at h53 h54 h50
  injection h53 with e; injection e with e1 e2; subst e1 e2
  injection h54 with e; injection e with e1 e2; subst e1 e2
  injection h50 with e; injection e with e1 e2; subst e1 e2
  subst h5
  obtain ⟨b6, off6, h6, hc61⟩ := ((HC.out.below HBW.out).below HE7.out) 1 (by omega)
  subst h6
  obtain ⟨b8, off8, h8, hc8⟩ := KC.out.below hb7 0 (by omega)
  subst h8
  rw [q2] at hc5
  rw [q3] at hc53
  rw [q4] at hc54
  rw [q0] at hc50
  rw [q6] at hc8
  have hc50' : W7.cell? ⟨b5, off5, none⟩ = some (.int .i64 12) := hc50
  have hc8' : W7.cell? ⟨b8, off8, none⟩ = some (.int .i64 6) := hc8
  obtain ⟨g0, g1, g2, g3, g4, g5, _⟩ := (HB0.out.below HE7.out HB0.out.lt).cells
  obtain ⟨k0, k1, k2, k3, k4, k5, _⟩ := (HB6.out.below hb7 HB6.out.lt).cells
  obtain ⟨m0, m1, m2, m3, m4, m5, _⟩ := b2.cells
  have HBN := Lib.hid ((HBW.out.trans (HE7.out.mono HBW.out.size)))
  have HW7 := Lib.hid hW7
  clear b2 hb7 hW7 hc50 hc8 HE6 HE7 JC KC q2 q3 q4 q0 q6 HQ
  have d2 : (11 : Int) ≤ nc := by omega
  have d3 : (0 : Int) < nc := by omega
  have d31 : (1 : Int) < nc := by omega
  have d32 : (2 : Int) < nc := by omega
  have d33 : (3 : Int) < nc := by omega
  have d34 : (4 : Int) < nc := by omega
  have d4 : 0 < nc := by omega
  have v4 : bits .and .i64 6 4 = 4 := by decide
  have v1 : bits .and .i64 6 1 = 0 := by decide
  go_wp2_with fail
  rw [HW7.out]
  go_quiet ((go_at_call 17; exact quiet_left (refW_any _ _)))
  go_wp2_with fail
  go_ret
  exact ⟨rfl, below_drewN HBN.out _⟩
theorem out_big (w : World) (Ar Ac Ao : Option Addr) (nr cr nc cc no co : Nat) (pc : Int) (hl st : Bool) (a1 a2 : Int) (hbig : bigB nr nc no = true) :
    Calls Try.prog 10 #[.agg #[.slice Ar nr cr, .int .i64 pc, .slice Ac nc cc, .bool hl, .bool st, .slice Ao no co], .int .i64 a1, .int .i64 a2] w fun e w' => e = .returned (.bool true) ∧ Below w.heap.size w w' := by
  have HBG := Lib.hid hbig
  clear hbig
  obtain ⟨W0, hW0⟩ : ∃ W0, (w.alloc (Obj.cells #[.slice Ar nr cr, .int .i64 pc, .slice Ac nc cc, .bool hl, .bool st, .slice Ao no co] 37)) = W0 := ⟨_, rfl⟩
  have b0 : Box W0 w.heap.size 37 (.slice Ar nr cr) (.int .i64 pc) (.slice Ac nc cc) (.bool hl) (.bool st) (.slice Ao no co) := by rw [← hW0]; exact Box.new _ _ _ _ _ _ _ _
  have hbw : Below w.heap.size w W0 := by rw [← hW0]; exact (Below.refl _ _).alloc (Nat.le_refl _) _
  have HW0 := Lib.hid hW0
  have HB0 := Lib.hid b0
  have HBW := Lib.hid hbw
  clear hW0 b0 hbw
  go_enter Try.func10, Try.ntmps10
  go_wp2_with fail
  rw [HW0.out]
  refine (alive9 _).mono ?_
  rintro e w1 ⟨rfl, hb1⟩
  have HE1 := Lib.hid hb1
  clear hb1
  obtain ⟨g0, g1, g2, g3, g4, g5, _⟩ := (HB0.out.below HE1.out HB0.out.lt).cells
  go_wp2_with fail
  refine (big_any _ _ _ _ _ _ _ _ _ _ _ _ _).mono ?_
  rintro e w2 ⟨rfl, hb2⟩
  rw [HBG.out]
  have HE2 := Lib.hid (btrans HE1.out hb2)
  clear hb2 HE1 g0 g1 g2 g3 g4 g5
  go_wp2_with fail
  go_ret
  exact ⟨rfl, HBW.out.trans (HE2.out.mono HBW.out.size)⟩
theorem out_few (w : World) (Ar Ac Ao : Option Addr) (nr cr nc cc no co : Nat) (pc : Int) (hl st : Bool) (a1 a2 : Int) (hbig : bigB nr nc no = false) (h11 : nc < 11) :
    Calls Try.prog 10 #[.agg #[.slice Ar nr cr, .int .i64 pc, .slice Ac nc cc, .bool hl, .bool st, .slice Ao no co], .int .i64 a1, .int .i64 a2] w fun e w' => e = .returned (.bool true) ∧ Below w.heap.size w w' := by
  have HBG := Lib.hid hbig
  clear hbig
  obtain ⟨W0, hW0⟩ : ∃ W0, (w.alloc (Obj.cells #[.slice Ar nr cr, .int .i64 pc, .slice Ac nc cc, .bool hl, .bool st, .slice Ao no co] 37)) = W0 := ⟨_, rfl⟩
  have b0 : Box W0 w.heap.size 37 (.slice Ar nr cr) (.int .i64 pc) (.slice Ac nc cc) (.bool hl) (.bool st) (.slice Ao no co) := by rw [← hW0]; exact Box.new _ _ _ _ _ _ _ _
  have hbw : Below w.heap.size w W0 := by rw [← hW0]; exact (Below.refl _ _).alloc (Nat.le_refl _) _
  have HW0 := Lib.hid hW0
  have HB0 := Lib.hid b0
  have HBW := Lib.hid hbw
  clear hW0 b0 hbw
  go_enter Try.func10, Try.ntmps10
  go_wp2_with fail
  rw [HW0.out]
  refine (alive9 _).mono ?_
  rintro e w1 ⟨rfl, hb1⟩
  have HE1 := Lib.hid hb1
  clear hb1
  obtain ⟨g0, g1, g2, g3, g4, g5, _⟩ := (HB0.out.below HE1.out HB0.out.lt).cells
  go_wp2_with fail
  refine (big_any _ _ _ _ _ _ _ _ _ _ _ _ _).mono ?_
  rintro e w2 ⟨rfl, hb2⟩
  rw [HBG.out]
  have HE2 := Lib.hid (btrans HE1.out hb2)
  clear hb2 HE1 g0 g1 g2 g3 g4 g5
  obtain ⟨g0, g1, g2, g3, g4, g5, _⟩ := (HB0.out.below HE2.out HB0.out.lt).cells
  have d1 : (nc : Int) < 11 := by omega
  go_wp2_with fail
  go_ret
  exact ⟨rfl, HBW.out.trans (HE2.out.mono HBW.out.size)⟩
theorem walk (Ar : Option Addr) (nr cr : Nat) (zr : List Int) (pc : Int) (Ac : Option Addr) (nc cc : Nat) (zc : List Int) (hl st : Bool) (Ao : Option Addr) (no co : Nat) (zo : List Int) (a1 : Int) (a2 : Int) (w : World) (rr : IsRow .i64 w Ar nr cr zr) (rc : IsRow .i64 w Ac nc cc zc) (ro : IsRow .u8 w Ao no co zo) (wpc : (Lit.int .i64 pc).wf = true) (w1 : (Lit.int .i64 a1).wf = true) (w2 : (Lit.int .i64 a2).wf = true) :
    Calls Try.prog 10 #[.agg #[.slice Ar nr cr, .int .i64 pc, .slice Ac nc cc, .bool hl, .bool st, .slice Ao no co], .int .i64 a1, .int .i64 a2] w fun e w' => e = .returned (.bool true) ∧ Below w.heap.size w w' := by
  obtain ⟨hrn, _, _⟩ := isrow_len rr
  obtain ⟨hon, _, _⟩ := isrow_len ro
  by_cases hbig : bigB nr nc no = true
  · exact out_big w Ar Ac Ao nr cr nc cc no co pc hl st a1 a2 hbig
  have hb2 : bigB nr nc no = false := by simpa using hbig
  by_cases h11 : nc < 11
  · exact out_few w Ar Ac Ao nr cr nc cc no co pc hl st a1 a2 hb2 h11
  exact core w Ar Ac Ao nr cr nc cc no co pc hl st _ _ _ a1 a2 (isrow_ints rr) hrn (isrow_ints rc) (isrow_bys ro) hon hb2 (by omega)

set_option maxRecDepth 100000 in
set_option maxHeartbeats 1000000 in
theorem lifted (os : Os) (started : os.Started) (H : Type) (enc : TypeId × Value → H) :
    ReturnsInHanded {} Try.checked os 10 .any (Rows.cpuNestSpec.pre6 enc Try.prog Try.f10 Rows.cpuNestRow.domain false) (Rows.cpuNestSpec.post enc Try.prog Try.f10 false true false false) := by
  refine returnsInHanded_of_change (C := Try.checked) own started (by kernel_rfl) Try.func10
    (ChangeSpec.witness6 (enc := enc) (C := Try.checked) false ⟨#[], #[.agg #[.slice none 0 0, .int .i64 0, .slice none 0 0, .bool false, .bool false, .slice none 0 0], .int .i64 0, .int .i64 0], []⟩ 8 (by kernel_rfl) (by kernel_rfl) (by kernel_rfl) (by kernel_rfl)) ?_
  intro W base args ds gs before hval0 hW hcnd _
  have hval : ∀ (j : Nat) t v, Try.f10.params[j]? = some t → args[j]? = some v → Value.okWide Try.prog W .any base t v := hval0
  have hW' := hW
  obtain ⟨p, q, hA0, hV, rfl, hfz, hnd⟩ := hW
  have hA : DataW.TrodAll enc Try.prog W 0 (fun _ => true) true Try.f10.params.toList args.toList ds p := hA0
  rw [Try.params10] at hA hval
  obtain ⟨v0, vs0, d0, ds0, p0, q0, hargs, rfl, rfl, h0, r0⟩ := trodAll_cons hA
  obtain ⟨v1, vs1, d1, ds1, p1, q1, rfl, rfl, rfl, h1, r1⟩ := trodAll_cons r0
  obtain ⟨v2, vs2, d2, ds2, p2, q2, rfl, rfl, rfl, h2, r2⟩ := trodAll_cons r1
  obtain ⟨rfl, rfl, rfl⟩ := trodAll_nil r2
  obtain rfl : args = #[v0, v1, v2] := by cases args; simp_all
  obtain ⟨rfl, rfl⟩ := trodVars_none hV
  have k0 := h0
  have lt0 : ∀ x ∈ p0, x.block < W.heap.size := by obtain ⟨m, hm⟩ := k0; exact DataW.trod_lt m _ _ _ hm
  obtain ⟨Ar, nr, cr, zr, pc, Ac, nc, cc, zc, hl, st, Ao, no, co, zo, rfl, rr, rc, ro, wpc⟩ := open_state Try.underlying37 (by kernel_rfl) (by kernel_rfl) Try.underlying27 Try.underlying3 (by kernel_rfl) Try.underlying4 Try.underlying35 Try.underlying5 (by kernel_rfl) (hval 0 37 v0 rfl rfl) h0
  obtain ⟨a1, rfl, rfl, rfl, w1⟩ := open_int Try.underlying3 (hval 1 3 v1 rfl rfl) h1
  obtain ⟨a2, rfl, rfl, rfl, w2⟩ := open_int Try.underlying3 (hval 2 3 v2 rfl rfl) h2
  clear hA0 hval0
  refine (walk Ar nr cr zr pc Ac nc cc zc hl st Ao no co zo a1 a2 W rr rc ro wpc w1 w2).mono fun e W' ⟨he, bel⟩ => ?_
  subst he
  exact ⟨_, rfl, _, _, _, [], _, [], hW', trodAll_mk1 (shut_bool Try.underlying4 _), (trodAll_cons_mk (Below.trod laidOut (by kernel_rfl) (of_decide_eq_true (by kernel_rfl)) k0 bel lt0) (trodAll_cons_mk (shut_int Try.underlying3 w1) (trodAll_cons_mk (shut_int Try.underlying3 w2) trodAll_mk0))), rfl, bel.frame _, fun h => by cases h⟩

theorem over : Rows.cpuNestRow.holds Try.pinned (OpenSpec.ofChange Rows.cpuNestSpec) :=
  OpenClaim.holds_of_wide 10 Try.f10 rfl rfl rfl rfl rfl rfl rfl ⟨rfl, rfl, rfl, rfl, rfl⟩ rfl rfl rfl rfl rfl (by kernel_rfl) Try.func10 (by kernel_rfl)
    (of_decide_eq_true (by kernel_rfl)) (by unfold Func.isWrapper; first | (rw [if_pos (by decide +kernel)]; kernel_rfl) | (rw [if_neg (by decide +kernel)]; exact ⟨rfl, rfl⟩))
    (fun os started H enc _ => lifted os started H enc)

theorem proved : Rows.CpuNestSaid := over
#print axioms proved
end Go.Proofs.Ytodkenbkogfefaa.cpuNest
