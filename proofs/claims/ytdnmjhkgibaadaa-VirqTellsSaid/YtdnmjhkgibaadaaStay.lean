/- trunnionref1.SameState of two states that read the same; trunnionlaw9.Stay of a state lent: contracts. -/
import Derived.Test.YtdnmjhkgibaadaaSame
import Derived.Test.YtdnmjhkgibaadaaApp
import Derived.Deep.DeepCutAuto
namespace Go.Proofs.Ytdnmjhkgibaadaa
open Go.RowKit

set_option maxHeartbeats 2000000 in
theorem sameState_true (w : World) (Ar Ac Ao Br Bc Bo : Option Addr) (nr cr nc cc no co dr dc dd : Nat) (pc : Int) (hl st : Bool) (fr fc : Nat → Int) (bo : List Int)
    (hr : IntsAt w Ar nr fr) (hc : IntsAt w Ac nc fc) (ho : Src w Ao no (bys bo)) (kr : IntsAt w Br nr fr) (kc : IntsAt w Bc nc fc) (ko : Src w Bo no (bys bo)) (hnr : nr ≤ 100000) (hnc : nc ≤ 100000) :
    Calls Try.prog 32 #[.agg #[.slice Ar nr cr, .int .i64 pc, .slice Ac nc cc, .bool hl, .bool st, .slice Ao no co], .agg #[.slice Br nr dr, .int .i64 pc, .slice Bc nc dc, .bool hl, .bool st, .slice Bo no dd]] w fun e w' => e = .returned (.bool true) ∧ Below w.heap.size w w' := by
  have hlen : bo.length = no := by rw [← bys_len]; exact ho.1
  subst hlen
  obtain ⟨W0, hW0⟩ : ∃ W0, ((w.alloc (Obj.cells #[.slice Ar nr cr, .int .i64 pc, .slice Ac nc cc, .bool hl, .bool st, .slice Ao bo.length co] 43)).alloc (Obj.cells #[.slice Br nr dr, .int .i64 pc, .slice Bc nc dc, .bool hl, .bool st, .slice Bo bo.length dd] 43)) = W0 := ⟨_, rfl⟩
  have b1 : Box W0 w.heap.size 43 (.slice Ar nr cr) (.int .i64 pc) (.slice Ac nc cc) (.bool hl) (.bool st) (.slice Ao bo.length co) := by rw [← hW0]; exact (Box.new _ _ _ _ _ _ _ _).alloc _
  have b2 : Box W0 (w.heap.size + 1) 43 (.slice Br nr dr) (.int .i64 pc) (.slice Bc nc dc) (.bool hl) (.bool st) (.slice Bo bo.length dd) := by rw [← hW0]; simpa using Box.new (w.alloc (Obj.cells #[.slice Ar nr cr, .int .i64 pc, .slice Ac nc cc, .bool hl, .bool st, .slice Ao bo.length co] 43)) 43 (.slice Br nr dr) (.int .i64 pc) (.slice Bc nc dc) (.bool hl) (.bool st) (.slice Bo bo.length dd)
  have hbw : Below w.heap.size w W0 := by rw [← hW0]; exact ((Below.refl _ _).alloc (Nat.le_refl _) _).alloc (by simp) _
  have v1 := src_conv (P := Try.prog) (ho.below hbw) co 25 5 Try.underlying25 Try.underlying5 9 Try.underlying9
  have v2 := src_conv (P := Try.prog) (ko.below hbw) dd 25 5 Try.underlying25 Try.underlying5 9 Try.underlying9
  have HW0 := Lib.hid hW0
  have HB1 := Lib.hid b1
  have HB2 := Lib.hid b2
  have HBW := Lib.hid hbw
  have HR := Lib.hid (hr.below hbw)
  have HC := Lib.hid (hc.below hbw)
  have KR := Lib.hid (kr.below hbw)
  have KC := Lib.hid (kc.below hbw)
  clear hW0 b1 b2 hbw hr hc ho kr kc ko
  go_enter Try.func32, Try.ntmps32
  go_upto_region 1 with fail
  rw [HW0.out]
  obtain ⟨g0, g1, g2, g3, g4, g5, _⟩ := HB1.out.cells
  obtain ⟨q0, q1, q2, q3, q4, q5, _⟩ := HB2.out.cells
  go_wp2_with fail
  refine (sameInts_true _ _ _ _ _ _ fr HR.out KR.out hnr).mono ?_
  rintro e w1 ⟨rfl, m1, rfl⟩
  go_wp2_with fail
  refine (sameInts_true _ _ _ _ _ _ fc (by exact HC.out) (by exact KC.out) hnc).mono ?_
  rintro e w2 ⟨rfl, m2, rfl⟩
  go_wp2_with fail
  go_ret
  exact ⟨rfl, ⟨HBW.out.os, HBW.out.tape, HBW.out.output, HBW.out.size, HBW.out.block⟩⟩
set_option maxHeartbeats 2000000 in
theorem stay_true (w : World) (Ar Ac Ao Br Bc Bo : Option Addr) (nr cr nc cc no co dr dc dd B : Nat) (pc : Int) (hl st : Bool) (fr fc : Nat → Int) (bo : List Int)
    (hr : LentAt w B (.slice Ar nr cr) nr (csL fr nr) (.int .i64 (-71))) (hc : LentAt w B (.slice Ac nc cc) nc (csL fc nc) (.int .i64 (-71))) (ho : LentAt w B (.slice Ao no co) no (bys bo) (.int .u8 171)) (kr : IntsAt w Br nr fr) (kc : IntsAt w Bc nc fc) (ko : Src w Bo no (bys bo)) (hnr : nr ≤ 100000) (hnc : nc ≤ 100000) (hno : no ≤ 100000) :
    Calls Try.prog 18 #[.agg #[.slice Ar nr cr, .int .i64 pc, .slice Ac nc cc, .bool hl, .bool st, .slice Ao no co], .agg #[.slice Br nr dr, .int .i64 pc, .slice Bc nc dc, .bool hl, .bool st, .slice Bo no dd]] w fun e w' => e = .returned (.bool true) ∧ Below w.heap.size w w' := by
  obtain ⟨b, off, rfl, l1, m1, _, _, c1⟩ := hr.form
  obtain ⟨b', off', rfl, l2, m2, _, _, c2⟩ := hc.form
  obtain ⟨b'', off'', rfl, l3, m3, _, _, c3⟩ := ho.form
  unfold maxLen at m1 m2 m3
  have i1 : (nr : Int) + 1 ≤ cr := by omega
  have i2 : (nc : Int) + 1 ≤ cc := by omega
  have i3 : (no : Int) + 1 ≤ co := by omega
  obtain ⟨W0, hW0⟩ : ∃ W0, ((w.alloc (Obj.cells #[.slice (some ⟨b, off, none⟩) nr cr, .int .i64 pc, .slice (some ⟨b', off', none⟩) nc cc, .bool hl, .bool st, .slice (some ⟨b'', off'', none⟩) no co] 43)).alloc (Obj.cells #[.slice Br nr dr, .int .i64 pc, .slice Bc nc dc, .bool hl, .bool st, .slice Bo no dd] 43)) = W0 := ⟨_, rfl⟩
  have b1 : Box W0 w.heap.size 43 (.slice (some ⟨b, off, none⟩) nr cr) (.int .i64 pc) (.slice (some ⟨b', off', none⟩) nc cc) (.bool hl) (.bool st) (.slice (some ⟨b'', off'', none⟩) no co) := by rw [← hW0]; exact (Box.new _ _ _ _ _ _ _ _).alloc _
  have b2 : Box W0 (w.heap.size + 1) 43 (.slice Br nr dr) (.int .i64 pc) (.slice Bc nc dc) (.bool hl) (.bool st) (.slice Bo no dd) := by rw [← hW0]; simpa using Box.new (w.alloc (Obj.cells #[.slice (some ⟨b, off, none⟩) nr cr, .int .i64 pc, .slice (some ⟨b', off', none⟩) nc cc, .bool hl, .bool st, .slice (some ⟨b'', off'', none⟩) no co] 43)) 43 (.slice Br nr dr) (.int .i64 pc) (.slice Bc nc dc) (.bool hl) (.bool st) (.slice Bo no dd)
  have hbw : Below w.heap.size w W0 := by rw [← hW0]; exact ((Below.refl _ _).alloc (Nat.le_refl _) _).alloc (by simp) _
  have HW0 := Lib.hid hW0
  have HB1 := Lib.hid b1
  have HB2 := Lib.hid b2
  have HBW := Lib.hid hbw
  have HR := Lib.hid (src_ints (hr.below hbw |>.src (csL_one _ _)))
  have HC := Lib.hid (src_ints (hc.below hbw |>.src (csL_one _ _)))
  have HO := Lib.hid (ho.below hbw |>.src (bys_one _))
  have KR := Lib.hid (kr.below hbw)
  have KC := Lib.hid (kc.below hbw)
  have KO := Lib.hid (ko.below hbw)
  have C1 := Lib.hid (cell_below hbw _ _ c1)
  have C2 := Lib.hid (cell_below hbw _ _ c2)
  have C3 := Lib.hid (cell_below hbw _ _ c3)
  clear hW0 b1 b2 hbw hr hc ho kr kc ko c1 c2 c3
  go_enter Try.func18, Try.ntmps18
  go_upto_region 1 with fail
  rw [HW0.out]
  obtain ⟨g0, g1, g2, g3, g4, g5, _⟩ := HB1.out.cells
  obtain ⟨q0, q1, q2, q3, q4, q5, _⟩ := HB2.out.cells
  go_wp2_with fail
  refine (sameState_true _ _ _ _ _ _ _ _ _ _ _ _ _ _ _ _ _ _ _ fr fc bo HR.out HC.out HO.out KR.out KC.out KO.out hnr hnc).mono ?_
  rintro e w1 ⟨rfl, hb1⟩
  clear g0 g1 g2 g3 g4 g5 q0 q1 q2 q3 q4 q5
  obtain ⟨g0, g1, g2, g3, g4, g5, _⟩ := (HB1.out.below hb1 HB1.out.lt).cells
  have c1 := cell_below hb1 _ _ C1.out
  have c2 := cell_below hb1 _ _ C2.out
  have c3 := cell_below hb1 _ _ C3.out
  have HN := Lib.hid (HBW.out.trans (hb1.mono HBW.out.size))
  clear hb1
  go_wp2_with fail
  go_ret
  exact ⟨rfl, HN.out⟩
end Go.Proofs.Ytdnmjhkgibaadaa
