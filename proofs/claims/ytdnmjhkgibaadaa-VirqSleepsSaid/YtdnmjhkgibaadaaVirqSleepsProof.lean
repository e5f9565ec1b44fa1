/- Proved: the Go law 'trunnionlaw20.VirqSleeps' returns true for every input and leaves its arguments as they were (the given statement Rows.VirqSleepsSaid). No conditions. The frame round the walk was written by the kit's proof-skeleton.mjs. -/
import Derived.Test.YtdnmjhkgibaadaaRows
import Derived.Test.YtdnmjhkgibaadaaSlept
import Derived.WalkKit
import Derived.ProofKit
import Derived.OpenShut
import Derived.ShutString
namespace Go.Proofs.Ytdnmjhkgibaadaa.virqSleeps
open Go.ChangeShapes Go.WideShapes Go.ChangeAt Go.RowKit
open Go.ChangeMaps (open_string shut_string)
set_option linter.unusedVariables false

theorem own : ownKnob Try.prog.godebug = none := by kernel_rfl

def SRel (w : World) (bm pm pb : Nat) (st tm cp ie : Int) (n : Nat) (v : Value) (x : World) : Prop :=
  ∃ i : Nat, i ≤ n ∧ v = .int .i64 (i : Int) ∧ (∃ pd, MP x bm pm pb 0 st (tm + i) cp pd ie) ∧ Below w.heap.size w x
theorem src66 (w : World) : Src (w.alloc (.cells #[.int .u8 0, .int .u8 0, .int .u8 0, .int .u8 66] 5)) (some ⟨w.heap.size, 0, none⟩) 4 [.int .u8 0, .int .u8 0, .int .u8 0, .int .u8 66] := by
  refine ⟨rfl, by simp [Value.oneCell'], fun _ => by simp, fun ad h j x hj => ?_⟩
  injection h with h
  subst h
  rw [Addr.add_lit, World.cell?_alloc_new]
  match j, hj with
  | 0, hj => simpa using hj
  | 1, hj => simpa using hj
  | 2, hj => simpa using hj
  | 3, hj => simpa using hj
  | j + 4, hj => simp at hj
theorem step_end (w : World) (B : Nat) (bm pm pb : Nat) (st tm cp pd ie : Int) (h : MP w bm pm pb 0 st tm cp pd ie) (hB : B ≤ bm) (hBw : B ≤ w.heap.size) (ht : 0 ≤ tm ∧ tm ≤ 1000) (hst : st = 4 ∨ st = 5) (hq : bits .and .i64 (pendI tm cp 0 0) ie = 1) :
    Calls Try.prog 10 #[.pointer (some ⟨bm, 0, none⟩)] w (StWk w B bm) := by
  rcases hst with rfl | rfl
  · exact step_wake4 w B bm pm pb 4 tm cp pd ie h hB hBw ht (by decide) (by rw [hq]; exact tk4) (by rw [hq]; rfl)
  · exact step_trap w B bm pm pb 5 tm cp pd ie h hB hBw ht (by rw [hq]; exact tk5.1) (by rw [hq]; exact tk5.2)
set_option maxRecDepth 100000 in
set_option maxHeartbeats 4000000 in
theorem core (a0 a1 a2 : Int) (a3 : Bool) (w : World) (h0 : 0 ≤ a0 ∧ a0 ≤ 200) (h1 : 0 ≤ a1 ∧ a1 ≤ 400) (h2 : 0 ≤ a2 ∧ a2 ≤ 7) :
    Calls Try.prog 3 #[.int .i64 a0, .int .i64 a1, .int .i64 a2, .bool a3] w fun e w' => e = .returned (.bool true) ∧ Below w.heap.size w w' := by
  obtain ⟨st, hst⟩ : ∃ st : Int, st = if a3 then 5 else 4 := ⟨_, rfl⟩
  have HST := Lib.hid hst
  have HS := Lib.hid (slept st a0 a1 a2 (by cases a3 <;> simp [hst]) h0 h1 h2)
  have E45 : Hid (st = 4 ∨ st = 5) := Lib.hid (by cases a3 <;> simp [hst])
  have S45 := Lib.hid (st45 st E45.out)
  clear hst
  obtain ⟨l0, u0⟩ := h0
  obtain ⟨l1, u1⟩ := h1
  obtain ⟨l2, u2⟩ := h2
  go_enter Try.func3, Try.ntmps3
  go_wp2_with fail
  refine (alive20 _).mono ?_
  rintro e w1 ⟨rfl, hb1⟩
  have HB1 := Lib.hid hb1
  clear hb1
  go_wp2_with fail
  refine (newMachine_any _ _ (src66 w1)).mono ?_
  rintro e w2 ⟨bm, pm, pb, g, rfl, hB, hz, h17, h18, h28, h29, h34, h35, hx, hm, n1, n2, hbm, hb2⟩
  have hbm1 : w1.heap.size ≤ bm := Nat.le_trans (by simp) hbm
  have hbw : w.heap.size ≤ bm := Nat.le_trans HB1.out.size hbm1
  have HB2 := Lib.hid ((HB1.out.alloc HB1.out.size _).trans (hb2.mono (Nat.le_trans HB1.out.size (by simp))))
  have HL4 := Lib.hid (lay4 a0 a1 a2 hB hz h17 h18 h28 h29 h34 h35 hx hm n1 n2)
  have HL5 := Lib.hid (lay5 a0 a1 a2 hB hz h18 h28 h29 h34 h35 hx hm n1 n2)
  have c24 := hB.cell (k := 24) (by omega)
  have c25 := hB.cell (k := 25) (by omega)
  have c27 := hB.cell (k := 27) (by omega)
  have c18 := hB.cell (k := 18) (by omega)
  have c17 := hB.cell (k := 17) (by omega)
  have f24 := hB.frozen 24
  have f25 := hB.frozen 25
  have f27 := hB.frozen 27
  have f18 := hB.frozen 18
  have f17 := hB.frozen 17
  rw [h18 24 (by omega) (by omega)] at c24
  rw [h18 25 (by omega) (by omega)] at c25
  rw [h18 27 (by omega) (by omega)] at c27
  rw [h18 18 (by omega) (by omega)] at c18
  rw [h17] at c17
  clear hB hz h17 h18 h28 h29 h34 h35 hx hm n1 n2 hbm hb2 hbm1
  obtain ⟨W, hW, HLW, HBW⟩ : ∃ W, W = (if a3 then ((((w2.setCell ⟨bm, 24, none⟩ (.int .i64 a0)).setCell ⟨bm, 25, none⟩ (.int .i64 a1)).setCell ⟨bm, 27, none⟩ (.int .i64 a2)).setCell ⟨bm, 18, none⟩ (.int .i64 64)).setCell ⟨bm, 17, none⟩ (.int .i64 5) else (((w2.setCell ⟨bm, 24, none⟩ (.int .i64 a0)).setCell ⟨bm, 25, none⟩ (.int .i64 a1)).setCell ⟨bm, 27, none⟩ (.int .i64 a2)).setCell ⟨bm, 18, none⟩ (.int .i64 64)) ∧ Laid W bm pm pb st a0 a1 a2 ∧ Below w.heap.size w W := by
    refine ⟨_, rfl, ?_, ?_⟩
    · rw [HST.out]; cases a3
      · exact HL4.out
      · exact HL5.out
    · have h4 := HB2.out.trans (set4_below hbw (.int .i64 a0) (.int .i64 a1) (.int .i64 a2) (.int .i64 64))
      cases a3
      · exact h4
      · exact h4.setCell (p := ⟨bm, 17, none⟩) hbw _
  have HW := Lib.hid hW
  have LW := Lib.hid HLW
  have BW := Lib.hid HBW
  clear hW HLW HBW HL4 HL5 HB2
  cases a3
  all_goals
    have hW := HW.out
    simp only [if_true, Bool.false_eq_true, if_false] at hW
    have HW' := Lib.hid hW.symm
    clear hW HW
    go_wp2_with fail
    rw [HW'.out]
    clear HW' c24 c25 c27 c18 c17 f24 f25 f27 f18 f17
    refine (state_any _ bm pm pb st a0 a1 0 a2 (fcL st a0 a1 a2) LW.out.1 LW.out.2.1 LW.out.2.2.1 LW.out.2.2.2).mono ?_
    rintro e w3 ⟨vr, vo, ac, cc, rfl, hi3, hb3⟩
    have HI := Lib.hid hi3
    have HM3 := Lib.hid (LW.out.1.below hb3)
    have HB3 := Lib.hid (BW.out.trans (hb3.mono BW.out.size))
    clear hi3 hb3 LW BW
    go_wp2_with fail
    refine (vsleep_any _ vr vo 0 ac 11 cc false false _ 0 0 HI.out (by omega)).mono ?_
    rintro e w4 ⟨rfl, hb4⟩
    have HM4 := Lib.hid (HM3.out.below hb4)
    have HB4 := Lib.hid (HB3.out.trans (hb4.mono HB3.out.size))
    clear hb4 HI HM3 HB3
    obtain ⟨n, hn, hcase⟩ := HS.out
    clear HS
    have HT := Lib.hid (show SRel w bm pm pb st a0 a1 a2 n (.int .i64 0) w4 from ⟨0, Nat.zero_le _, rfl, ⟨0, by rw [show a0 + ((0 : Nat) : Int) = a0 by omega]; exact HM4.out⟩, HB4.out⟩)
    clear HM4 HB4
    rcases hcase with ⟨es, en, hq⟩ | ⟨es, hq, hw⟩
    · rw [es]
      subst en
      have HQ := Lib.hid hq
      clear hq es
      go_wp2_with fail
      go_loopw [13] (SRel w bm pm pb st a0 a1 a2 450) (fun i _ => 450 - (intOf i).toNat)
      case atStart => exact HT.out
      case round =>
        clear HT
        obtain ⟨i, hi, rfl, ⟨pd, hm⟩, hb⟩ := hrel
        have hBr := hb.size
        have HM := Lib.hid hm
        have Hb := Lib.hid hb
        clear hm hb
        by_cases hlt : i < 450
        · have i1 : (0 : Int) ≤ (i : Int) := by omega
          have i2 : (i : Int) < (450 : Int) := by omega
          have i3 : (i : Int) ≤ 450 := by omega
          go_wp2_with fail
          have q := HQ.out (a0 + i) (by omega) (by omega)
          refine (step_sleep _ w.heap.size bm pm pb st (a0 + i) a1 pd a2 HM.out hbw hBr (by omega) S45.out (by rw [q]; exact tk0 _) (by rw [q]; rfl)).mono ?_
          rintro e w5 ⟨rfl, hm5, hb5⟩
          have c16 := hm5.cells.1.2.1
          have HNEW := Lib.hid (show SRel w bm pm pb st a0 a1 a2 450 (.int .i64 ((i : Int) + 1)) w5 from ⟨i + 1, by omega, by go_num, ⟨_, by rw [show a0 + ((i + 1 : Nat) : Int) = a0 + i + 1 by omega]; exact hm5⟩, Hb.out.trans hb5⟩)
          clear hm5 hb5 q HM
          go_wp2
          go_roundw
          case rel =>
            have hnew := HNEW.out
            first | exact hnew | ((repeat apply Exists.intro); exact ⟨hnew, rfl⟩)
          case measure => simp [intOf]; omega
        · have hge : (450 : Int) ≤ i := by omega
          have hin : i = 450 := by omega
          have i1 : (0 : Int) ≤ (i : Int) := by omega
          have i3 : (i : Int) ≤ 450 := by omega
          have HIN := Lib.hid hin
          clear hin
          go_wp2_with fail
          have q := HQ.out (a0 + i) (by omega) (by omega)
          refine (step_sleep _ w.heap.size bm pm pb st (a0 + i) a1 pd a2 HM.out hbw hBr (by omega) S45.out (by rw [q]; exact tk0 _) (by rw [q]; rfl)).mono ?_
          rintro e w5 ⟨rfl, hm5, hb5⟩
          have c16 := hm5.cells.1.2.1
          have Hb5 := Lib.hid hb5
          clear hm5 hb5 q HM
          go_wp2_with fail
          go_ret
          exact ⟨rfl, Hb.out.trans Hb5.out⟩
    · rw [es]
      have HQ := Lib.hid hq
      have HQ2 := Lib.hid hw
      clear hq hw es
      go_wp2_with fail
      go_loopw [13] (SRel w bm pm pb st a0 a1 a2 n) (fun i _ => n - (intOf i).toNat)
      case atStart => exact HT.out
      case round =>
        clear HT
        obtain ⟨i, hi, rfl, ⟨pd, hm⟩, hb⟩ := hrel
        have hBr := hb.size
        have HM := Lib.hid hm
        have Hb := Lib.hid hb
        clear hm hb
        by_cases hlt : i < n
        · have i1 : (0 : Int) ≤ (i : Int) := by omega
          have i2 : (i : Int) < (n : Int) := by omega
          have i3 : (i : Int) ≤ 450 := by omega
          go_wp2_with fail
          have q := HQ.out (a0 + i) (by omega) (by omega)
          refine (step_sleep _ w.heap.size bm pm pb st (a0 + i) a1 pd a2 HM.out hbw hBr (by omega) S45.out (by rw [q]; exact tk0 _) (by rw [q]; rfl)).mono ?_
          rintro e w5 ⟨rfl, hm5, hb5⟩
          have c16 := hm5.cells.1.2.1
          have HNEW := Lib.hid (show SRel w bm pm pb st a0 a1 a2 n (.int .i64 ((i : Int) + 1)) w5 from ⟨i + 1, by omega, by go_num, ⟨_, by rw [show a0 + ((i + 1 : Nat) : Int) = a0 + i + 1 by omega]; exact hm5⟩, Hb.out.trans hb5⟩)
          clear hm5 hb5 q HM
          go_wp2
          go_roundw
          case rel =>
            have hnew := HNEW.out
            first | exact hnew | ((repeat apply Exists.intro); exact ⟨hnew, rfl⟩)
          case measure => simp [intOf]; omega
        · have hge : (n : Int) ≤ i := by omega
          have hin : i = n := by omega
          have i1 : (0 : Int) ≤ (i : Int) := by omega
          have i3 : (i : Int) ≤ 450 := by omega
          have HIN := Lib.hid hin
          clear hin
          go_wp2_with fail
          have q : bits .and .i64 (pendI (a0 + i) a1 0 0) a2 = 1 := by rw [HIN.out]; exact HQ2.out
          refine (step_end _ w.heap.size bm pm pb st (a0 + i) a1 pd a2 HM.out hbw hBr (by omega) E45.out q).mono ?_
          rintro e w5 ⟨rfl, ⟨x, hx, c16⟩, hb5⟩
          have hx2 : x ≠ 0 := by simpa using hx
          have Hb5 := Lib.hid hb5
          clear hb5 q HM
          go_wp2_with fail
          go_ret
          have hx3 : (x != 0) = true := by simpa using hx2
          refine ⟨?_, Hb.out.trans Hb5.out⟩
          simp [hx3]
theorem walk (a0 : Int) (a1 : Int) (a2 : Int) (a3 : Bool) (w0 : (Lit.int .i64 a0).wf = true) (w1 : (Lit.int .i64 a1).wf = true) (w2 : (Lit.int .i64 a2).wf = true) (w : World) :
    Calls Try.prog 3 #[.int .i64 a0, .int .i64 a1, .int .i64 a2, .bool a3] w fun e w' => e = .returned (.bool true) ∧ Below w.heap.size w w' := by
  by_cases h : (0 ≤ a0 ∧ a0 ≤ 200) ∧ (0 ≤ a1 ∧ a1 ≤ 400) ∧ 0 ≤ a2 ∧ a2 ≤ 7
  · exact core a0 a1 a2 a3 w h.1 h.2.1 h.2.2
  · clear w0 w1 w2
    go_enter Try.func3, Try.ntmps3
    go_wp2_with fail
    refine (alive20 _).mono ?_
    rintro e w1 ⟨rfl, hb1⟩
    have HB1 := Lib.hid hb1
    clear hb1
    go_wp2_with fail
    all_goals
      go_ret
      exact ⟨rfl, HB1.out⟩

set_option maxRecDepth 100000 in
theorem lifted (os : Os) (started : os.Started) (H : Type) (enc : TypeId × Value → H) :
    ReturnsInHanded {} Try.checked os 3 .any (Rows.virqSleepsSpec.pre6 enc Try.prog Try.f3 Rows.virqSleepsRow.domain false) (Rows.virqSleepsSpec.post enc Try.prog Try.f3 false true false false) := by
  refine returnsInHanded_of_change (C := Try.checked) own started (by kernel_rfl) Try.func3
    (ChangeSpec.witness6 (enc := enc) (C := Try.checked) false ⟨#[], #[.int .i64 0, .int .i64 0, .int .i64 0, .bool false], []⟩ 8 (by kernel_rfl) (by kernel_rfl) (by kernel_rfl) (by kernel_rfl)) ?_
  intro W base args ds gs before hval0 hW hcnd _
  have hval : ∀ (j : Nat) t v, Try.f3.params[j]? = some t → args[j]? = some v → Value.okWide Try.prog W .any base t v := hval0
  have hW' := hW
  obtain ⟨p, q, hA0, hV, rfl, hfz, hnd⟩ := hW
  have hA : DataW.TrodAll enc Try.prog W 0 (fun _ => true) true Try.f3.params.toList args.toList ds p := hA0
  rw [Try.params3] at hA hval
  obtain ⟨v0, vs0, d0, ds0, p0, q0, hargs, rfl, rfl, h0, r0⟩ := trodAll_cons hA
  obtain ⟨v1, vs1, d1, ds1, p1, q1, rfl, rfl, rfl, h1, r1⟩ := trodAll_cons r0
  obtain ⟨v2, vs2, d2, ds2, p2, q2, rfl, rfl, rfl, h2, r2⟩ := trodAll_cons r1
  obtain ⟨v3, vs3, d3, ds3, p3, q3, rfl, rfl, rfl, h3, r3⟩ := trodAll_cons r2
  obtain ⟨rfl, rfl, rfl⟩ := trodAll_nil r3
  obtain rfl : args = #[v0, v1, v2, v3] := by cases args; simp_all
  obtain ⟨rfl, rfl⟩ := trodVars_none hV
  obtain ⟨a0, rfl, rfl, rfl, w0⟩ := open_int Try.underlying3 (hval 0 3 v0 rfl rfl) h0
  obtain ⟨a1, rfl, rfl, rfl, w1⟩ := open_int Try.underlying3 (hval 1 3 v1 rfl rfl) h1
  obtain ⟨a2, rfl, rfl, rfl, w2⟩ := open_int Try.underlying3 (hval 2 3 v2 rfl rfl) h2
  obtain ⟨a3, rfl, rfl, rfl⟩ := open_bool Try.underlying4 (hval 3 4 v3 rfl rfl) h3
  clear hA0 hval0
  simp only [List.append_nil] at hW'
  refine (walk a0 a1 a2 a3 w0 w1 w2 W).mono fun e W' ⟨he, hg⟩ => ?_
  subst he
  exact ⟨_, rfl, _, _, _, [], [], [], hW', (trodAll_cons_mk (shut_bool Try.underlying4 _) trodAll_mk0), (trodAll_cons_mk (shut_int Try.underlying3 w0) (trodAll_cons_mk (shut_int Try.underlying3 w1) (trodAll_cons_mk (shut_int Try.underlying3 w2) (trodAll_cons_mk (shut_bool Try.underlying4 _) trodAll_mk0)))), rfl, hg.frame _, fun h => by cases h⟩

theorem over : Rows.virqSleepsRow.holds Try.pinned (OpenSpec.ofChange Rows.virqSleepsSpec) :=
  OpenClaim.holds_of_wide 3 Try.f3 rfl rfl rfl rfl rfl rfl rfl ⟨rfl, rfl, rfl, rfl, rfl⟩ rfl rfl rfl rfl rfl (by kernel_rfl) Try.func3 (by kernel_rfl)
    (of_decide_eq_true (by kernel_rfl)) (by unfold Func.isWrapper; first | (rw [if_pos (by decide +kernel)]; kernel_rfl) | (rw [if_neg (by decide +kernel)]; exact ⟨rfl, rfl⟩))
    (fun os started H enc _ => lifted os started H enc)

theorem proved : Rows.VirqSleepsSaid :=
  over
#print axioms proved
end Go.Proofs.Ytdnmjhkgibaadaa.virqSleeps
