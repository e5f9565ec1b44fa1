/- What trunnionlaw9.Lent makes of a state: the same in memory of its own, with a mark behind each slice. -/
import Derived.Test.YtdnmjhkgibaadaaApp
import Derived.Test.YtdnmjhkgibaadaaSame
import Derived.Deep.RegionLaw
import Derived.Deep.DeepCutAuto
import Derived.Deep.DrawnRows
namespace Go.Proofs.Ytdnmjhkgibaadaa
open Go.RowKit
attribute [local go_sem ↓] Go.wp_at_zero Go.wp_at_succ

theorem Try.infoL64 : (Try.prog.info? 3).map (fun i => (i.zero, i.size, i.bytes)) = some (some (.int .i64 0), 1, 8) := by kernel_rfl
theorem Try.infoL8 : (Try.prog.info? 5).map (fun i => (i.zero, i.size, i.bytes)) = some (some (.int .u8 0), 1, 1) := by kernel_rfl
theorem below_undrew {B : Nat} {w w' : World} (h : Below B w.drew w') : Below B w w' := ⟨h.os, h.tape, h.output, h.size, h.block⟩
/-- A state lent. -/
def LentP (w : World) (nr nc no : Nat) (pc : Int) (h st : Bool) (fr fc : Nat → Int) (bo : List Int) (e : Ending) (w' : World) : Prop :=
  ∃ ar cr ac cc ao co, e = .returned (.agg #[.slice ar nr cr, .int .i64 pc, .slice ac nc cc, .bool h, .bool st, .slice ao no co]) ∧ LentAt w' w.heap.size (.slice ar nr cr) nr (csL fr nr) (.int .i64 (-71)) ∧ LentAt w' w.heap.size (.slice ac nc cc) nc (csL fc nc) (.int .i64 (-71)) ∧ LentAt w' w.heap.size (.slice ao no co) no (bys bo) (.int .u8 171) ∧ Below w.heap.size w w'
/-- Behind a statement of Lent: the box's new field, the rest as it was. -/
def Cut1 (w : World) (v1 v2 v3 v4 v5 : Value) (n : Nat) (xs : List Value) (m s : Value) (wx : World) : Prop :=
  ∃ a cap, s = .slice a n cap ∧ Box wx w.heap.size 43 (.slice a n cap) v1 v2 v3 v4 v5 ∧ Box wx (w.heap.size + 1) 43 (.slice none 0 0) (.int .i64 0) (.slice none 0 0) (.bool false) (.bool false) (.slice none 0 0) ∧ LentAt wx (w.heap.size + 2) (.slice a n cap) n xs m ∧ Below w.heap.size w wx ∧ w.heap.size + 2 ≤ wx.heap.size
def Cut2 (w : World) (v0 v1 v3 v4 v5 : Value) (n0 : Nat) (xs0 : List Value) (n : Nat) (xs : List Value) (m s : Value) (wx : World) : Prop :=
  ∃ a cap, s = .slice a n cap ∧ Box wx w.heap.size 43 v0 v1 (.slice a n cap) v3 v4 v5 ∧ Box wx (w.heap.size + 1) 43 (.slice none 0 0) (.int .i64 0) (.slice none 0 0) (.bool false) (.bool false) (.slice none 0 0) ∧ LentAt wx (w.heap.size + 2) (.slice a n cap) n xs m ∧ Below w.heap.size w wx ∧ w.heap.size + 2 ≤ wx.heap.size ∧ LentAt wx (w.heap.size + 2) v0 n0 xs0 (.int .i64 (-71))
def Cut3 (w : World) (v0 v1 v2 v3 v4 : Value) (n0 : Nat) (xs0 : List Value) (n2 : Nat) (xs2 : List Value) (n : Nat) (xs : List Value) (m s : Value) (wx : World) : Prop :=
  ∃ a cap, s = .slice a n cap ∧ Box wx w.heap.size 43 v0 v1 v2 v3 v4 (.slice a n cap) ∧ Box wx (w.heap.size + 1) 43 (.slice none 0 0) (.int .i64 0) (.slice none 0 0) (.bool false) (.bool false) (.slice none 0 0) ∧ LentAt wx (w.heap.size + 2) (.slice a n cap) n xs m ∧ Below w.heap.size w wx ∧ w.heap.size + 2 ≤ wx.heap.size ∧ LentAt wx (w.heap.size + 2) v0 n0 xs0 (.int .i64 (-71)) ∧ LentAt wx (w.heap.size + 2) v2 n2 xs2 (.int .i64 (-71))
set_option maxRecDepth 100000 in
set_option maxHeartbeats 8000000 in
theorem lent_any (w : World) (Ar Ac Ao : Option Addr) (nr cr nc cc no co : Nat) (pc : Int) (hl st : Bool) (fr fc : Nat → Int) (bo : List Int)
    (hr : IntsAt w Ar nr fr) (hnr : nr ≤ 100000) (hc : IntsAt w Ac nc fc) (hnc : nc ≤ 100000) (ho : Src w Ao no (bys bo)) (hno : no ≤ 100000) :
    Calls Try.prog 13 #[.agg #[.slice Ar nr cr, .int .i64 pc, .slice Ac nc cc, .bool hl, .bool st, .slice Ao no co]] w (LentP w nr nc no pc hl st fr fc bo) := by
  obtain ⟨i0, hi, hz0, hz1, hz2⟩ := info_parts Try.infoL64
  have Hi := Lib.hid hi
  have Hz0 := Lib.hid hz0
  have Hz1 := Lib.hid hz1
  have Hz2 := Lib.hid hz2
  clear hi hz0 hz1 hz2
  obtain ⟨i8, hi, hz0, hz1, hz2⟩ := info_parts Try.infoL8
  have Ji := Lib.hid hi
  have Jz0 := Lib.hid hz0
  have Jz1 := Lib.hid hz1
  have Jz2 := Lib.hid hz2
  clear hi hz0 hz1 hz2
  have HR := Lib.hid (ints_src' hr)
  have HC := Lib.hid (ints_src' hc)
  have HO := Lib.hid ho
  have HLR := Lib.hid (csL_len fr nr)
  have HLC := Lib.hid (csL_len fc nc)
  have HLO := Lib.hid ho.1
  clear hr hc ho
  obtain ⟨W0, hW0⟩ : ∃ W0, ((w.alloc (Obj.cells #[.slice Ar nr cr, .int .i64 pc, .slice Ac nc cc, .bool hl, .bool st, .slice Ao no co] 43)).alloc (Obj.cells #[.slice none 0 0, .int .i64 0, .slice none 0 0, .bool false, .bool false, .slice none 0 0] 43)) = W0 := ⟨_, rfl⟩
  have b1 : Box W0 w.heap.size 43 (.slice Ar nr cr) (.int .i64 pc) (.slice Ac nc cc) (.bool hl) (.bool st) (.slice Ao no co) := by rw [← hW0]; exact (Box.new _ _ _ _ _ _ _ _).alloc _
  have b2 : Box W0 (w.heap.size + 1) 43 (.slice none 0 0) (.int .i64 0) (.slice none 0 0) (.bool false) (.bool false) (.slice none 0 0) := by rw [← hW0]; simpa using Box.new (w.alloc (Obj.cells #[.slice Ar nr cr, .int .i64 pc, .slice Ac nc cc, .bool hl, .bool st, .slice Ao no co] 43)) 43 (.slice none 0 0) (.int .i64 0) (.slice none 0 0) (.bool false) (.bool false) (.slice none 0 0)
  have hs0 : w.heap.size + 2 ≤ W0.heap.size := by rw [← hW0]; simp
  have hbw : Below w.heap.size w W0 := by rw [← hW0]; exact ((Below.refl _ _).alloc (Nat.le_refl _) _).alloc (by simp) _
  have HW0 := Lib.hid hW0
  have HB1 := Lib.hid b1
  have HB2 := Lib.hid b2
  have HS0 := Lib.hid hs0
  have HBW := Lib.hid hbw
  clear hW0 b1 b2 hs0 hbw
  go_enter Try.func13, Try.ntmps13
  go_upto_region 1 with fail
  rw [HW0.out]
  have SX := Lib.hid (HR.out.below HBW.out)
  obtain ⟨g0, g1, g2, g3, g4, g5, gf⟩ := HB1.out.cells
  have e0 := gf 0
  have hlt0 : w.heap.size < W0.heap.size := World.block_lt_of_cell? _ _ g0
  have hne0 : w.heap.size ≠ W0.heap.size := Nat.ne_of_lt hlt0
  clear gf
  go_cut [11] (Cut1 w (.int .i64 pc) (.slice Ac nc cc) (.bool hl) (.bool st) (.slice Ao no co) nr (csL fr nr) (.int .i64 (-71)))
  case first =>
    go_region_law (first
      | (refine step_append_mine _ (by rfl) (.const (.slice none 0 0)) (.tmp 4) 41 (by rfl) 3 i0 (.int .i64 0) 8 Try.underlying41 Hi.out Hz0.out Hz1.out Hz2.out rfl (fun _ => 1) 0 W0.heap.size (.slice none 0 0) [] 0 rfl (by rfl) (Own.nil _ _ _ _) (by simp) Ar nr cr (csL fr nr) (by rfl) (by first | exact SX.out | exact SX.out.alloc _) (by unfold maxLen; omega) (by omega) nr (Nat.zero_add _) ?_; intro a1 cap1 w1 c1 ho1 hst1; have hb := below_undrew (stp_all hst1); have HBA : Hid (Below W0.heap.size W0 w1) := Lib.hid (by first | exact hb | exact ((Below.refl _ _).alloc (Nat.le_refl _) _).trans (hb.mono (by simp))); (try (have HN := Lib.hid ((src_new W0 (.int .i64 (-71)) 3 rfl).below hb))); have Ho1 := Lib.hid ho1; clear ho1 hst1 hb g0 g1 g2 g3 g4 g5 e0; obtain ⟨g0, g1, g2, g3, g4, g5, gf⟩ := (HB1.out.below HBA.out HB1.out.lt).cells; have e0 := gf 0; have hlt1 : w.heap.size < w1.heap.size := World.block_lt_of_cell? _ _ g0; have hne1 : w.heap.size ≠ w1.heap.size := Nat.ne_of_lt hlt1; have hne2 : w1.heap.size ≠ w.heap.size := Nat.ne_of_gt hlt1; clear gf)
      | (refine step_append_mine _ (by rfl) (.tmp 5) (.tmp 6) 41 (by rfl) 3 i0 (.int .i64 0) 8 Try.underlying41 Hi.out Hz0.out Hz1.out Hz2.out rfl c1 0 W0.heap.size (.slice a1 nr cap1) (csL fr nr) nr HLR.out (by rfl) (by first | exact Ho1.out | exact Ho1.out.alloc _) (by first | exact HBA.out.size | exact Nat.le_trans HBA.out.size (by simp)) _ 1 1 [(.int .i64 (-71))] (by rfl) (by first | exact src_new _ _ _ rfl | exact HN.out) (by unfold maxLen; omega) (by omega) (nr + 1) rfl ?_; intro a2 cap2 w2 c2 ho2 hst2; have HBB : Hid (Below W0.heap.size W0 w2) := Lib.hid (by first | exact HBA.out.trans (stp_low hst2 HBA.out.size) | exact (HBA.out.alloc HBA.out.size _).trans (stp_low hst2 (Nat.le_trans HBA.out.size (by simp)))); have hL := lent_of_own ho2 HLR.out; obtain ⟨b2, off2, h2, hcap, _, _, _, _⟩ := hL.form; subst h2; have HLT := Lib.hid hL; have hcap2 : (nr : Int) ≤ cap2 := (by omega); have hcap3 : nr ≤ cap2 := (by omega); clear ho2 hst2 hL g0 g1 g2 g3 g4 g5 e0; obtain ⟨g0, g1, g2, g3, g4, g5, gf⟩ := (HB1.out.below HBB.out HB1.out.lt).cells; have e0 := gf 0; clear gf))
    all_goals
      go_wp2_with fail
      go_meet
      have hs0 := HS0.out
      have hz := HBB.out.size
      have hne : w.heap.size + 1 ≠ w.heap.size := by omega
      refine ⟨_, _, rfl, (HB1.out.below HBB.out HB1.out.lt).set0 _, (HB2.out.below HBB.out HB2.out.lt).far (p := ⟨w.heap.size, 0, none⟩) hne _, (HLT.out.keep (w' := w2.setCell ⟨w.heap.size, 0, none⟩ _) (by simp) fun k hB _ => Below.heap_setCell _ _ _ _ (show k ≠ w.heap.size by omega)).base hs0, (HBW.out.trans (HBB.out.mono HBW.out.size)).setCell (p := ⟨w.heap.size, 0, none⟩) (Nat.le_refl _) _, by rw [World.size_setCell]; omega⟩
  case rest =>
    obtain ⟨a1r, c1r, rfl, b1, b2, l1, hbw, hs0⟩ := hcut
    have HB1' := Lib.hid b1
    have HB2' := Lib.hid b2
    have HS0' := Lib.hid hs0
    have HBW' := Lib.hid hbw
    clear HB1 HB2 HS0 HBW b1 b2 hs0 hbw SX g0 g1 g2 g3 g4 g5 e0
    have HB1 := Lib.hid HB1'.out
    have HB2 := Lib.hid HB2'.out
    have HS0 := Lib.hid HS0'.out
    have HBW := Lib.hid HBW'.out
    clear HB1' HB2' HS0' HBW'
    have HL1 := Lib.hid l1
    clear l1
    obtain ⟨W1, hW1⟩ : ∃ W1, wc = W1 := ⟨_, rfl⟩
    subst hW1
    go_upto_region 2 with fail
    have SX := Lib.hid (HC.out.below HBW.out)
    obtain ⟨g0, g1, g2, g3, g4, g5, gf⟩ := HB1.out.cells
    have e0 := gf 2
    have hlt0 : w.heap.size < wc.heap.size := World.block_lt_of_cell? _ _ g2
    have hne0 : w.heap.size ≠ wc.heap.size := Nat.ne_of_lt hlt0
    clear gf
    go_cut [21] (Cut2 w (.slice a1r nr c1r) (.int .i64 pc) (.bool hl) (.bool st) (.slice Ao no co) nr (csL fr nr) nc (csL fc nc) (.int .i64 (-71)))
    case first =>
      go_region_law (first
        | (refine step_append_mine _ (by rfl) (.const (.slice none 0 0)) (.tmp 14) 41 (by rfl) 3 i0 (.int .i64 0) 8 Try.underlying41 Hi.out Hz0.out Hz1.out Hz2.out rfl (fun _ => 1) 0 wc.heap.size (.slice none 0 0) [] 0 rfl (by rfl) (Own.nil _ _ _ _) (by simp) Ac nc cc (csL fc nc) (by rfl) (by first | exact SX.out | exact SX.out.alloc _) (by unfold maxLen; omega) (by omega) nc (Nat.zero_add _) ?_; intro a1 cap1 w1 c1 ho1 hst1; have hb := below_undrew (stp_all hst1); have HBA : Hid (Below wc.heap.size wc w1) := Lib.hid (by first | exact hb | exact ((Below.refl _ _).alloc (Nat.le_refl _) _).trans (hb.mono (by simp))); (try (have HN := Lib.hid ((src_new wc (.int .i64 (-71)) 3 rfl).below hb))); have Ho1 := Lib.hid ho1; clear ho1 hst1 hb g0 g1 g2 g3 g4 g5 e0; obtain ⟨g0, g1, g2, g3, g4, g5, gf⟩ := (HB1.out.below HBA.out HB1.out.lt).cells; have e0 := gf 2; have hlt1 : w.heap.size < w1.heap.size := World.block_lt_of_cell? _ _ g2; have hne1 : w.heap.size ≠ w1.heap.size := Nat.ne_of_lt hlt1; have hne2 : w1.heap.size ≠ w.heap.size := Nat.ne_of_gt hlt1; clear gf)
        | (refine step_append_mine _ (by rfl) (.tmp 15) (.tmp 16) 41 (by rfl) 3 i0 (.int .i64 0) 8 Try.underlying41 Hi.out Hz0.out Hz1.out Hz2.out rfl c1 0 wc.heap.size (.slice a1 nc cap1) (csL fc nc) nc HLC.out (by rfl) (by first | exact Ho1.out | exact Ho1.out.alloc _) (by first | exact HBA.out.size | exact Nat.le_trans HBA.out.size (by simp)) _ 1 1 [(.int .i64 (-71))] (by rfl) (by first | exact src_new _ _ _ rfl | exact HN.out) (by unfold maxLen; omega) (by omega) (nc + 1) rfl ?_; intro a2 cap2 w2 c2 ho2 hst2; have HBB : Hid (Below wc.heap.size wc w2) := Lib.hid (by first | exact HBA.out.trans (stp_low hst2 HBA.out.size) | exact (HBA.out.alloc HBA.out.size _).trans (stp_low hst2 (Nat.le_trans HBA.out.size (by simp)))); have hL := lent_of_own ho2 HLC.out; obtain ⟨b2, off2, h2, hcap, _, _, _, _⟩ := hL.form; subst h2; have HLT := Lib.hid hL; have hcap2 : (nc : Int) ≤ cap2 := (by omega); have hcap3 : nc ≤ cap2 := (by omega); clear ho2 hst2 hL g0 g1 g2 g3 g4 g5 e0; obtain ⟨g0, g1, g2, g3, g4, g5, gf⟩ := (HB1.out.below HBB.out HB1.out.lt).cells; have e0 := gf 2; clear gf))
      all_goals
        go_wp2_with fail
        go_meet
        have hs0 := HS0.out
        have hz := HBB.out.size
        have hne : w.heap.size + 1 ≠ w.heap.size := by omega
        refine ⟨_, _, rfl, (HB1.out.below HBB.out HB1.out.lt).set2 _, (HB2.out.below HBB.out HB2.out.lt).far (p := ⟨w.heap.size, 2, none⟩) hne _, (HLT.out.keep (w' := w2.setCell ⟨w.heap.size, 2, none⟩ _) (by simp) fun k hB _ => Below.heap_setCell _ _ _ _ (show k ≠ w.heap.size by omega)).base hs0, (HBW.out.trans (HBB.out.mono HBW.out.size)).setCell (p := ⟨w.heap.size, 2, none⟩) (Nat.le_refl _) _, by rw [World.size_setCell]; omega, (HL1.out.keep (by omega) fun k hB hk => HBB.out.block k hk).keep (w' := w2.setCell ⟨w.heap.size, 2, none⟩ _) (by simp) fun k hB _ => Below.heap_setCell _ _ _ _ (show k ≠ w.heap.size by omega)⟩
    case rest =>
      clear HL1
      obtain ⟨a2r, c2r, rfl, b1, b2, l2, hbw, hs0, l1⟩ := hcut
      have HB1' := Lib.hid b1
      have HB2' := Lib.hid b2
      have HS0' := Lib.hid hs0
      have HBW' := Lib.hid hbw
      clear HB1 HB2 HS0 HBW hlt0 hne0 b1 b2 hs0 hbw SX g0 g1 g2 g3 g4 g5 e0
      have HB1 := Lib.hid HB1'.out
      have HB2 := Lib.hid HB2'.out
      have HS0 := Lib.hid HS0'.out
      have HBW := Lib.hid HBW'.out
      clear HB1' HB2' HS0' HBW'
      have HL1 := Lib.hid l1
      clear l1
      have HL2 := Lib.hid l2
      clear l2
      go_upto_region 3 with fail
      have SX := Lib.hid (HO.out.below HBW.out)
      obtain ⟨g0, g1, g2, g3, g4, g5, gf⟩ := HB1.out.cells
      have e0 := gf 5
      have hlt0 : w.heap.size < wc.heap.size := World.block_lt_of_cell? _ _ g5
      have hne0 : w.heap.size ≠ wc.heap.size := Nat.ne_of_lt hlt0
      clear gf
      go_cut [31] (Cut3 w (.slice a1r nr c1r) (.int .i64 pc) (.slice a2r nc c2r) (.bool hl) (.bool st) nr (csL fr nr) nc (csL fc nc) no (bys bo) (.int .u8 171))
      case first =>
        go_region_law (first
          | (refine step_append_mine _ (by rfl) (.const (.slice none 0 0)) (.tmp 24) 25 (by rfl) 5 i8 (.int .u8 0) 1 Try.underlying25 Ji.out Jz0.out Jz1.out Jz2.out rfl (fun _ => 1) 0 wc.heap.size (.slice none 0 0) [] 0 rfl (by rfl) (Own.nil _ _ _ _) (by simp) Ao no co (bys bo) (by rfl) (by first | exact SX.out | exact SX.out.alloc _) (by unfold maxLen; omega) (by omega) no (Nat.zero_add _) ?_; intro a1 cap1 w1 c1 ho1 hst1; have hb := below_undrew (stp_all hst1); have HBA : Hid (Below wc.heap.size wc w1) := Lib.hid (by first | exact hb | exact ((Below.refl _ _).alloc (Nat.le_refl _) _).trans (hb.mono (by simp))); (try (have HN := Lib.hid ((src_new wc (.int .u8 171) 5 rfl).below hb))); have Ho1 := Lib.hid ho1; clear ho1 hst1 hb g0 g1 g2 g3 g4 g5 e0; obtain ⟨g0, g1, g2, g3, g4, g5, gf⟩ := (HB1.out.below HBA.out HB1.out.lt).cells; have e0 := gf 5; have hlt1 : w.heap.size < w1.heap.size := World.block_lt_of_cell? _ _ g5; have hne1 : w.heap.size ≠ w1.heap.size := Nat.ne_of_lt hlt1; have hne2 : w1.heap.size ≠ w.heap.size := Nat.ne_of_gt hlt1; clear gf)
          | (refine step_append_mine _ (by rfl) (.tmp 25) (.tmp 26) 25 (by rfl) 5 i8 (.int .u8 0) 1 Try.underlying25 Ji.out Jz0.out Jz1.out Jz2.out rfl c1 0 wc.heap.size (.slice a1 no cap1) (bys bo) no HLO.out (by rfl) (by first | exact Ho1.out | exact Ho1.out.alloc _) (by first | exact HBA.out.size | exact Nat.le_trans HBA.out.size (by simp)) _ 1 1 [(.int .u8 171)] (by rfl) (by first | exact src_new _ _ _ rfl | exact HN.out) (by unfold maxLen; omega) (by omega) (no + 1) rfl ?_; intro a2 cap2 w2 c2 ho2 hst2; have HBB : Hid (Below wc.heap.size wc w2) := Lib.hid (by first | exact HBA.out.trans (stp_low hst2 HBA.out.size) | exact (HBA.out.alloc HBA.out.size _).trans (stp_low hst2 (Nat.le_trans HBA.out.size (by simp)))); have hL := lent_of_own ho2 HLO.out; obtain ⟨b2, off2, h2, hcap, _, _, _, _⟩ := hL.form; subst h2; have HLT := Lib.hid hL; have hcap2 : (no : Int) ≤ cap2 := (by omega); have hcap3 : no ≤ cap2 := (by omega); clear ho2 hst2 hL g0 g1 g2 g3 g4 g5 e0; obtain ⟨g0, g1, g2, g3, g4, g5, gf⟩ := (HB1.out.below HBB.out HB1.out.lt).cells; have e0 := gf 5; clear gf))
        all_goals
          go_wp2_with fail
          go_meet
          have hs0 := HS0.out
          have hz := HBB.out.size
          have hne : w.heap.size + 1 ≠ w.heap.size := by omega
          refine ⟨_, _, rfl, (HB1.out.below HBB.out HB1.out.lt).set5 _, (HB2.out.below HBB.out HB2.out.lt).far (p := ⟨w.heap.size, 5, none⟩) hne _, (HLT.out.keep (w' := w2.setCell ⟨w.heap.size, 5, none⟩ _) (by simp) fun k hB _ => Below.heap_setCell _ _ _ _ (show k ≠ w.heap.size by omega)).base hs0, (HBW.out.trans (HBB.out.mono HBW.out.size)).setCell (p := ⟨w.heap.size, 5, none⟩) (Nat.le_refl _) _, by rw [World.size_setCell]; omega, (HL1.out.keep (by omega) fun k hB hk => HBB.out.block k hk).keep (w' := w2.setCell ⟨w.heap.size, 5, none⟩ _) (by simp) fun k hB _ => Below.heap_setCell _ _ _ _ (show k ≠ w.heap.size by omega), (HL2.out.keep (by omega) fun k hB hk => HBB.out.block k hk).keep (w' := w2.setCell ⟨w.heap.size, 5, none⟩ _) (by simp) fun k hB _ => Below.heap_setCell _ _ _ _ (show k ≠ w.heap.size by omega)⟩
      case rest =>
        clear HL1 HL2
        obtain ⟨a3r, c3r, rfl, b1, b2, l3, hbw, hs0, l1, l2⟩ := hcut
        have HB1' := Lib.hid b1
        have HB2' := Lib.hid b2
        have HS0' := Lib.hid hs0
        have HBW' := Lib.hid hbw
        clear HB1 HB2 HS0 HBW hlt0 hne0 b1 b2 hs0 hbw SX g0 g1 g2 g3 g4 g5 e0
        have HB1 := Lib.hid HB1'.out
        have HB2 := Lib.hid HB2'.out
        have HS0 := Lib.hid HS0'.out
        have HBW := Lib.hid HBW'.out
        clear HB1' HB2' HS0' HBW'
        have HL1 := Lib.hid l1
        clear l1
        have HL2 := Lib.hid l2
        clear l2
        have HL3 := Lib.hid l3
        clear l3
        obtain ⟨g0, g1, g2, g3, g4, g5, gf⟩ := HB1.out.cells
        obtain ⟨q0, q1, q2, q3, q4, q5, qf⟩ := HB2.out.cells
        have d0 := qf 0
        have d1 := qf 1
        have d2 := qf 2
        have d3 := qf 3
        have d4 := qf 4
        have d5 := qf 5
        clear gf qf
        go_wp2_with fail
        obtain ⟨W4, hW4⟩ : ∃ W4, ((((((wc.setCell ⟨w.heap.size + 1, 0, none⟩ (.slice a1r nr c1r)).setCell ⟨w.heap.size + 1, 1, none⟩ (.int .i64 pc)).setCell ⟨w.heap.size + 1, 2, none⟩ (.slice a2r nc c2r)).setCell ⟨w.heap.size + 1, 3, none⟩ (.bool hl)).setCell ⟨w.heap.size + 1, 4, none⟩ (.bool st)).setCell ⟨w.heap.size + 1, 5, none⟩ (.slice a3r no c3r)) = W4 := ⟨_, rfl⟩
        rw [hW4]
        obtain ⟨b4, k4, s4, l4⟩ := st6 HB2.out hW4
        obtain ⟨r0, r1, r2, r3, r4, r5, _⟩ := b4.cells
        have hz : wc.heap.size ≤ W4.heap.size := by omega
        refine bodyPost_ret (v := .agg #[.slice a1r nr c1r, .int .i64 pc, .slice a2r nc c2r, .bool hl, .bool st, .slice a3r no c3r]) (by simp [results, Try.results13, go_sem, r0, r1, r2, r3, r4, r5]) rfl ?_
        exact ⟨_, _, _, _, _, _, rfl, (HL1.out.keep hz fun k hB _ => k4 k (by omega)).base (by omega), (HL2.out.keep hz fun k hB _ => k4 k (by omega)).base (by omega), (HL3.out.keep hz fun k hB _ => k4 k (by omega)).base (by omega), HBW.out.trans (l4 _ (by omega))⟩
end Go.Proofs.Ytdnmjhkgibaadaa
