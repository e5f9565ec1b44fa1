/- What trunnionref1.EnterState and LeaveState make of a state: the same as cpu.Enter and cpu.Leave. -/
import Derived.Test.YtodkenbkogfefaaKeep
import Derived.Test.YtodkenbkogfefaaOfm
import Derived.Test.YtodkenbkogfefaaEnter
namespace Go.Proofs.Ytodkenbkogfefaa
open Go.RowKit
attribute [local go_sem ↓] Go.wp_at_zero Go.wp_at_succ

theorem cv_exC (f : Nat → Int) (n k : Nat) : cv f n k = W (exC f n k) := by
  unfold cv exC
  by_cases h : k < n
  · rw [if_pos h, if_pos h]
  · rw [if_neg h, if_neg h]; rfl
def cq (c : Nat → Nat) (q k : Nat) : Nat := if k = q then 4 else c k
theorem leaveS_W (x : Int) : leaveS (W x) = leaveS x := by unfold leaveS W; omega
theorem enterS_W (x : Int) : enterS (W x) = enterS x := by unfold enterS W; omega
set_option maxRecDepth 100000 in
set_option maxHeartbeats 4000000 in
theorem leaveState_any (w : World) (Ar Ac Ao : Option Addr) (nr cr nc cc no co : Nat) (pc : Int) (hl st : Bool) (fr fc : Nat → Int) (bo : List Int)
    (hr : IntsAt w Ar nr fr) (hnr : nr ≤ 100000) (hc : IntsAt w Ac nc fc) (hnc : nc ≤ 100000) (ho : Src w Ao no (bys bo)) (hno : no ≤ 100000) :
    Calls Try.prog 27 #[.agg #[.slice Ar nr cr, .int .i64 pc, .slice Ac nc cc, .bool hl, .bool st, .slice Ao no co]] w (StP w nr (max 11 nc) no (W (exC fc nc 2)) hl st fr (leaF fc nc) bo) := by
  obtain ⟨M, hM⟩ : ∃ M, max 11 nc = M := ⟨_, rfl⟩
  rw [hM]
  have hM2 : 11 ≤ M := by omega
  have HM := Lib.hid hM
  clear hM
  have HR := Lib.hid hr
  have HC := Lib.hid hc
  have HO := Lib.hid ho
  clear hr hc ho
  obtain ⟨W0, hW0⟩ : ∃ W0, ((w.alloc (Obj.cells #[.slice Ar nr cr, .int .i64 pc, .slice Ac nc cc, .bool hl, .bool st, .slice Ao no co] 37)).alloc (Obj.cells #[.slice none 0 0, .int .i64 0, .slice none 0 0, .bool false, .bool false, .slice none 0 0] 37)) = W0 := ⟨_, rfl⟩
  have b1 : Box W0 w.heap.size 37 (.slice Ar nr cr) (.int .i64 pc) (.slice Ac nc cc) (.bool hl) (.bool st) (.slice Ao no co) := by rw [← hW0]; exact (Box.new _ _ _ _ _ _ _ _).alloc _
  have b2 : Box W0 (w.heap.size + 1) 37 (.slice none 0 0) (.int .i64 0) (.slice none 0 0) (.bool false) (.bool false) (.slice none 0 0) := by rw [← hW0]; simpa using Box.new (w.alloc (Obj.cells #[.slice Ar nr cr, .int .i64 pc, .slice Ac nc cc, .bool hl, .bool st, .slice Ao no co] 37)) 37 (.slice none 0 0) (.int .i64 0) (.slice none 0 0) (.bool false) (.bool false) (.slice none 0 0)
  have hs0 : W0.heap.size = w.heap.size + 2 := by rw [← hW0]; simp
  have hbw : Below w.heap.size w W0 := by rw [← hW0]; exact ((Below.refl _ _).alloc (Nat.le_refl _) _).alloc (by simp) _
  have HW0 := Lib.hid hW0
  have HB1 := Lib.hid b1
  have HB2 := Lib.hid b2
  have HS0 := Lib.hid hs0
  have HBW := Lib.hid hbw
  clear hW0 b1 b2 hs0 hbw
  go_enter Try.func27, Try.ntmps27
  go_wp2_with fail
  rw [HW0.out]
  refine (ofm_any _ _ _ _ _ _ _ _ _ _ _ _ _ fr fc bo (HR.out.below HBW.out) hnr (HC.out.below HBW.out) hnc (HO.out.below HBW.out) hno).mono ?_
  rintro e w1 ⟨bm, rfl, hbm, hx16, hxc, hb1⟩
  obtain ⟨g0, g1, g2, g3, g4, g5, _⟩ := (HB1.out.below hb1 HB1.out.lt).cells
  have HE1 := Lib.hid hb1
  have HX16 := Lib.hid hx16
  have HXC := Lib.hid hxc
  have HBM := Lib.hid hbm
  clear hb1 hx16 hxc hbm
  go_wp2_with fail
  refine (keep_any _ _ _ _ _ _ _ _ _ _ _ _ _ fr fc bo _ ((HR.out.below HBW.out).below HE1.out) hnr ((HC.out.below HBW.out).below HE1.out) hnc ((HO.out.below HBW.out).below HE1.out) hno).mono ?_
  rintro e w2 ⟨c, ar, cr', ac, cc', ao, co', rfl, oR, oC, oO, hb2⟩
  rw [HM.out] at oC ⊢
  obtain ⟨W3, hW3⟩ : ∃ W3, (w2.alloc (Obj.cells #[.slice ar nr cr', .int .i64 pc, .slice ac M cc', .bool hl, .bool st, .slice ao no co'] 37)) = W3 := ⟨_, rfl⟩
  have b3 : Box W3 w2.heap.size 37 (.slice ar nr cr') (.int .i64 pc) (.slice ac M cc') (.bool hl) (.bool st) (.slice ao no co') := by rw [← hW3]; exact Box.new _ _ _ _ _ _ _ _
  have hb3 : Below w2.heap.size w2 W3 := by rw [← hW3]; exact (Below.refl _ _).alloc (Nat.le_refl _) _
  have hs0 := HS0.out
  have hs1 := HE1.out.size
  have hs2 := hb2.size
  have hbm := HBM.out
  have cqo : ∀ {d : Nat} {v : Value} {xs : List Value}, Own w2 c d w1.heap.size v xs → Own W3 (cq c w2.heap.size) d w1.heap.size v xs := fun h => h.keep hb3.size fun k _ hk hc => ⟨by unfold cq; rw [if_neg (by omega)]; exact hc, hb3.block k hk⟩
  have oR3 := cqo oR
  have oC3 := cqo oC
  have oO3 := cqo oO
  have hcq : cq c w2.heap.size w2.heap.size = 4 := by unfold cq; rw [if_pos rfl]
  have x16 := cell_below hb3 _ _ (cell_below hb2 _ _ HX16.out)
  have xc : ∀ k, k < 11 → W3.cell? ⟨bm, 17 + k, none⟩ = some (.int .i64 (W (exC fc nc k))) := fun k hk => by
    rw [← cv_exC]; exact cell_below hb3 _ _ (cell_below hb2 _ _ (HXC.out k hk))
  have hbml : bm < w1.heap.size := World.block_lt_of_cell? _ _ HX16.out
  obtain ⟨b, off, rfl, hcb, hBb, hlb, hcell, hfz⟩ := own_at oC3 (by omega)
  have hlb2 : b < w2.heap.size := by
    obtain ⟨b', off', e', _, _, h, _⟩ := own_at oC (by omega)
    injection e' with e'
    injection e' with e1 e2
    omega
  have b2 := ((HB2.out.below HE1.out HB2.out.lt).below hb2 (by omega)).below hb3 (by omega)
  have HB2' := Lib.hid b2
  have HoR := Lib.hid oR3
  have HoC := Lib.hid oC3
  have HoO := Lib.hid oO3
  have HB3 := Lib.hid b3
  have HW3 := Lib.hid hW3
  have HBN := Lib.hid (((HBW.out.trans (HE1.out.mono HBW.out.size)).trans (hb2.mono (by omega))).trans (hb3.mono (by omega)))
  have HCB := Lib.hid hcb
  have HCQ := Lib.hid hcq
  clear hcq
  obtain ⟨q, hq⟩ : ∃ q, w2.heap.size = q := ⟨_, rfl⟩
  have HQ := Lib.hid hq
  rw [hq] at hlb2
  have hqs : w1.heap.size ≤ q := by omega
  have HXX := Lib.hid xc
  have HB0 := Lib.hid (show w.heap.size + 2 ≤ w1.heap.size by omega)
  have HCL := Lib.hid hcell
  have HFZ := Lib.hid hfz
  have HBb := Lib.hid hBb
  have l0 : w.heap.size + 2 ≤ bm := by omega
  have l1 : bm < q := by omega
  have l2 : w.heap.size + 2 ≤ b := by omega
  have nbm : bm ≠ b := by omega
  have nbm2 : b ≠ bm := by omega
  have nq : q ≠ b := by omega
  have nq2 : b ≠ q := by omega
  have nq3 : bm ≠ q := by omega
  have nq4 : q ≠ bm := by omega
  clear cqo hb2 hb3 b2 b3 hW3 oR oC oO oR3 oC3 oO3 hs1 hs2 hcb hBb hcell hfz HE1 HX16 HXC HBM HB1 HB2 g0 g1 g2 g3 g4 g5 xc hlb hqs hbml hq hbm
  have y2 : W3.cell? ⟨bm, 19, none⟩ = some (.int .i64 (W (exC fc nc 2))) := HXX.out 2 (by omega)
  have y0 : W3.cell? ⟨bm, 17, none⟩ = some (.int .i64 (W (exC fc nc 0))) := HXX.out 0 (by omega)
  have c0 : W3.cell? ⟨b, off, none⟩ = some (.int .i64 (exK fc nc 0)) := HCL.out 0 (by omega)
  have f0 : W3.frozen? ⟨b, off, none⟩ = false := HFZ.out 0 (by omega)
  have i0 : (0 : Int) < (M : Int) := by omega
  have m0 : 0 < M := by omega
  go_upto_region 3 with fail
  rw [HW3.out, HQ.out]
  have b3 := HB3.out
  rw [HQ.out] at b3
  obtain ⟨k0, k1, k2, k3, k4, k5, kf⟩ := b3.cells
  have e1 := kf 1
  have HB3' := Lib.hid b3
  clear b3 kf
  go_wp2_with fail
  have cne : ∀ d, d ≠ 4 → cq c w2.heap.size q ≠ d := fun d h => by rw [← HQ.out, HCQ.out]; exact fun e => h e.symm
  have cne2 : ∀ d, d ≠ 2 → cq c w2.heap.size b ≠ d := fun d h => by rw [HCB.out]; exact fun e => h e.symm
  obtain ⟨W4, hW4⟩ : ∃ W4, (W3.setCell ⟨q, 1, none⟩ (.int .i64 (W (exC fc nc 2)))) = W4 := ⟨_, rfl⟩
  rw [hW4]
  have oR := HoR.out.far (p := ⟨q, 1, none⟩) (.inr (cne 1 (by decide))) (.int .i64 (W (exC fc nc 2)))
  have oC := HoC.out.far (p := ⟨q, 1, none⟩) (.inr (cne 2 (by decide))) (.int .i64 (W (exC fc nc 2)))
  have oO := HoO.out.far (p := ⟨q, 1, none⟩) (.inr (cne 3 (by decide))) (.int .i64 (W (exC fc nc 2)))
  have b3 := HB3'.out.set1 (.int .i64 (W (exC fc nc 2)))
  have b2 := HB2'.out.far (p := ⟨q, 1, none⟩) (show w.heap.size + 1 ≠ q by omega) (.int .i64 (W (exC fc nc 2)))
  have hbn := HBN.out.setCell (p := ⟨q, 1, none⟩) (show w.heap.size ≤ q by omega) (.int .i64 (W (exC fc nc 2)))
  have y0' : (W3.setCell ⟨q, 1, none⟩ (.int .i64 (W (exC fc nc 2)))).cell? ⟨bm, 17, none⟩ = some (.int .i64 (W (exC fc nc 0))) := by rw [World.cell?_setCell_other _ _ _ _ (by intro e; injection e; omega)]; exact y0
  have c0' : (W3.setCell ⟨q, 1, none⟩ (.int .i64 (W (exC fc nc 2)))).cell? ⟨b, off, none⟩ = some (.int .i64 (exK fc nc 0)) := by rw [World.cell?_setCell_other _ _ _ _ (by intro e; injection e; omega)]; exact c0
  have f0' : (W3.setCell ⟨q, 1, none⟩ (.int .i64 (W (exC fc nc 2)))).frozen? ⟨b, off, none⟩ = false := by rw [World.frozen?_setCell]; exact f0
  rw [hW4] at oR oC oO b3 b2 hbn y0' c0' f0'
  obtain ⟨k0', k1', k2', k3', k4', k5', kf⟩ := b3.cells
  obtain ⟨z0, z1, z2, z3, z4, z5, zf⟩ := b2.cells
  have d0 := zf 0
  have d1 := zf 1
  have d2 := zf 2
  have d3 := zf 3
  have d4 := zf 4
  have d5 := zf 5
  have JoR := Lib.hid oR
  have JoC := Lib.hid oC
  have JoO := Lib.hid oO
  have JB2 := Lib.hid b2
  have JBN := Lib.hid hbn
  have JN := Lib.hid cne2
  clear oR oC oO b3 b2 hbn hW4 kf zf k0 k1 k2 k3 k4 k5 e1 y0 y2 c0 f0 cne cne2 HoR HoC HoO HB3' HB2' HBN HXX HCL HFZ
  go_region_held3 (fun w' => w'.cell? ⟨q, 2, none⟩ = some (.slice (some ⟨b, off, none⟩) M cc') ∧ w'.cell? ⟨bm, 17, none⟩ = some (.int .i64 (W (exC fc nc 0)))) (first | go_keep | assumption) (first | (go_at_call 63; refine (refLeave_any _ _).mono ?_; rintro e w' ⟨rfl, rfl⟩))
  go_wp2_with fail
  obtain ⟨W6, h6⟩ : ∃ W6, (((((((W4.setCell ⟨b, off, none⟩ (.int .i64 (leaveS (W (exC fc nc 0))))).setCell ⟨w.heap.size + 1, 0, none⟩ (.slice ar nr cr')).setCell ⟨w.heap.size + 1, 1, none⟩ (.int .i64 (W (exC fc nc 2)))).setCell ⟨w.heap.size + 1, 2, none⟩ (.slice (some ⟨b, off, none⟩) M cc')).setCell ⟨w.heap.size + 1, 3, none⟩ (.bool hl)).setCell ⟨w.heap.size + 1, 4, none⟩ (.bool st)).setCell ⟨w.heap.size + 1, 5, none⟩ (.slice ao no co')).drew = W6 := ⟨_, rfl⟩
  rw [h6]
  have oC := own_put JoC.out 0 (by omega) (leaveS (W (exC fc nc 0)))
  have hfun : (fun j => if j = 0 then leaveS (W (exC fc nc 0)) else exK fc nc j) = leaF fc nc := by funext j; unfold leaF; rw [leaveS_W]; rfl
  rw [hfun] at oC
  have oR := JoR.out.far (p := ⟨b, off, none⟩) (.inr (JN.out 1 (by decide))) (.int .i64 (leaveS (W (exC fc nc 0))))
  have oO := JoO.out.far (p := ⟨b, off, none⟩) (.inr (JN.out 3 (by decide))) (.int .i64 (leaveS (W (exC fc nc 0))))
  have b2 := JB2.out.far (p := ⟨b, off, none⟩) (show w.heap.size + 1 ≠ b by omega) (.int .i64 (leaveS (W (exC fc nc 0))))
  have hb := JBN.out.setCell (p := ⟨b, off, none⟩) (show w.heap.size ≤ b by omega) (.int .i64 (leaveS (W (exC fc nc 0))))
  have hB0 : w.heap.size + 2 ≤ w1.heap.size := HB0.out
  obtain ⟨b6, hP⟩ := fin_st b2 hB0 oR oC oO hb h6
  obtain ⟨r0, r1, r2, r3, r4, r5, _⟩ := b6.cells
  exact bodyPost_ret (v := .agg #[.slice ar nr cr', .int .i64 (W (exC fc nc 2)), .slice (some ⟨b, off, none⟩) M cc', .bool hl, .bool st, .slice ao no co']) (by simp [results, Try.results27, go_sem, r0, r1, r2, r3, r4, r5]) rfl hP
theorem StP.drew {w : World} {nr M no : Nat} {pc : Int} {h st : Bool} {fr F : Nat → Int} {bo : List Int} {e : Ending} {w' : World} (hP : StP w nr M no pc h st fr F bo e w') : StP w nr M no pc h st fr F bo e w'.drew := by
  obtain ⟨c, ar, cr, ac, cc, ao, co, he, oR, oC, oO, hb⟩ := hP
  exact ⟨c, ar, cr, ac, cc, ao, co, he, oR, oC, oO, hb.drew⟩
set_option maxRecDepth 100000 in
set_option maxHeartbeats 4000000 in
theorem enterState_any (w : World) (Ar Ac Ao : Option Addr) (nr cr nc cc no co : Nat) (pc : Int) (hl st : Bool) (fr fc : Nat → Int) (bo : List Int) (cause tval : Int)
    (hr : IntsAt w Ar nr fr) (hnr : nr ≤ 100000) (hc : IntsAt w Ac nc fc) (hnc : nc ≤ 100000) (ho : Src w Ao no (bys bo)) (hno : no ≤ 100000) :
    Calls Try.prog 30 #[.agg #[.slice Ar nr cr, .int .i64 pc, .slice Ac nc cc, .bool hl, .bool st, .slice Ao no co], .int .i64 cause, .int .i64 tval] w (StP w nr (max 11 nc) no (W (exC fc nc 1)) hl st fr (entF fc nc pc cause tval) bo) := by
  obtain ⟨M, hM⟩ : ∃ M, max 11 nc = M := ⟨_, rfl⟩
  rw [hM]
  have hM2 : 11 ≤ M := by omega
  have HM := Lib.hid hM
  clear hM
  have HR := Lib.hid hr
  have HC := Lib.hid hc
  have HO := Lib.hid ho
  clear hr hc ho
  obtain ⟨W0, hW0⟩ : ∃ W0, ((w.alloc (Obj.cells #[.slice Ar nr cr, .int .i64 pc, .slice Ac nc cc, .bool hl, .bool st, .slice Ao no co] 37)).alloc (Obj.cells #[.slice none 0 0, .int .i64 0, .slice none 0 0, .bool false, .bool false, .slice none 0 0] 37)) = W0 := ⟨_, rfl⟩
  have b1 : Box W0 w.heap.size 37 (.slice Ar nr cr) (.int .i64 pc) (.slice Ac nc cc) (.bool hl) (.bool st) (.slice Ao no co) := by rw [← hW0]; exact (Box.new _ _ _ _ _ _ _ _).alloc _
  have b2 : Box W0 (w.heap.size + 1) 37 (.slice none 0 0) (.int .i64 0) (.slice none 0 0) (.bool false) (.bool false) (.slice none 0 0) := by rw [← hW0]; simpa using Box.new (w.alloc (Obj.cells #[.slice Ar nr cr, .int .i64 pc, .slice Ac nc cc, .bool hl, .bool st, .slice Ao no co] 37)) 37 (.slice none 0 0) (.int .i64 0) (.slice none 0 0) (.bool false) (.bool false) (.slice none 0 0)
  have hs0 : W0.heap.size = w.heap.size + 2 := by rw [← hW0]; simp
  have hbw : Below w.heap.size w W0 := by rw [← hW0]; exact ((Below.refl _ _).alloc (Nat.le_refl _) _).alloc (by simp) _
  have HW0 := Lib.hid hW0
  have HB1 := Lib.hid b1
  have HB2 := Lib.hid b2
  have HS0 := Lib.hid hs0
  have HBW := Lib.hid hbw
  clear hW0 b1 b2 hs0 hbw
  go_enter Try.func30, Try.ntmps30
  go_wp2_with fail
  rw [HW0.out]
  refine (ofm_any _ _ _ _ _ _ _ _ _ _ _ _ _ fr fc bo (HR.out.below HBW.out) hnr (HC.out.below HBW.out) hnc (HO.out.below HBW.out) hno).mono ?_
  rintro e w1 ⟨bm, rfl, hbm, hx16, hxc, hb1⟩
  obtain ⟨g0, g1, g2, g3, g4, g5, _⟩ := (HB1.out.below hb1 HB1.out.lt).cells
  have HE1 := Lib.hid hb1
  have HX16 := Lib.hid hx16
  have HXC := Lib.hid hxc
  have HBM := Lib.hid hbm
  clear hb1 hx16 hxc hbm
  go_wp2_with fail
  refine (keep_any _ _ _ _ _ _ _ _ _ _ _ _ _ fr fc bo _ ((HR.out.below HBW.out).below HE1.out) hnr ((HC.out.below HBW.out).below HE1.out) hnc ((HO.out.below HBW.out).below HE1.out) hno).mono ?_
  rintro e w2 ⟨c, ar, cr', ac, cc', ao, co', rfl, oR, oC, oO, hb2⟩
  rw [HM.out] at oC ⊢
  obtain ⟨W3, hW3⟩ : ∃ W3, (w2.alloc (Obj.cells #[.slice ar nr cr', .int .i64 pc, .slice ac M cc', .bool hl, .bool st, .slice ao no co'] 37)) = W3 := ⟨_, rfl⟩
  have b3 : Box W3 w2.heap.size 37 (.slice ar nr cr') (.int .i64 pc) (.slice ac M cc') (.bool hl) (.bool st) (.slice ao no co') := by rw [← hW3]; exact Box.new _ _ _ _ _ _ _ _
  have hb3 : Below w2.heap.size w2 W3 := by rw [← hW3]; exact (Below.refl _ _).alloc (Nat.le_refl _) _
  have hs0 := HS0.out
  have hs1 := HE1.out.size
  have hs2 := hb2.size
  have hbm := HBM.out
  have cqo : ∀ {d : Nat} {v : Value} {xs : List Value}, Own w2 c d w1.heap.size v xs → Own W3 (cq c w2.heap.size) d w1.heap.size v xs := fun h => h.keep hb3.size fun k _ hk hc => ⟨by unfold cq; rw [if_neg (by omega)]; exact hc, hb3.block k hk⟩
  have oR3 := cqo oR
  have oC3 := cqo oC
  have oO3 := cqo oO
  have hcq : cq c w2.heap.size w2.heap.size = 4 := by unfold cq; rw [if_pos rfl]
  have x16 := cell_below hb3 _ _ (cell_below hb2 _ _ HX16.out)
  have xc : ∀ k, k < 11 → W3.cell? ⟨bm, 17 + k, none⟩ = some (.int .i64 (W (exC fc nc k))) := fun k hk => by
    rw [← cv_exC]; exact cell_below hb3 _ _ (cell_below hb2 _ _ (HXC.out k hk))
  have hbml : bm < w1.heap.size := World.block_lt_of_cell? _ _ HX16.out
  obtain ⟨b, off, rfl, hcb, hBb, hlb, hcell, hfz⟩ := own_at oC3 (by omega)
  have hlb2 : b < w2.heap.size := by
    obtain ⟨b', off', e', _, _, h, _⟩ := own_at oC (by omega)
    injection e' with e'
    injection e' with e1 e2
    omega
  have b2 := ((HB2.out.below HE1.out HB2.out.lt).below hb2 (by omega)).below hb3 (by omega)
  have HB2' := Lib.hid b2
  have HoR := Lib.hid oR3
  have HoC := Lib.hid oC3
  have HoO := Lib.hid oO3
  have HB3 := Lib.hid b3
  have HW3 := Lib.hid hW3
  have HBN := Lib.hid (((HBW.out.trans (HE1.out.mono HBW.out.size)).trans (hb2.mono (by omega))).trans (hb3.mono (by omega)))
  have HCB := Lib.hid hcb
  have HCQ := Lib.hid hcq
  clear hcq
  obtain ⟨q, hq⟩ : ∃ q, w2.heap.size = q := ⟨_, rfl⟩
  have HQ := Lib.hid hq
  rw [hq] at hlb2
  have hqs : w1.heap.size ≤ q := by omega
  have HXX := Lib.hid xc
  have HB0 := Lib.hid (show w.heap.size + 2 ≤ w1.heap.size by omega)
  have HCL := Lib.hid hcell
  have HFZ := Lib.hid hfz
  have HBb := Lib.hid hBb
  have l0 : w.heap.size + 2 ≤ bm := by omega
  have l1 : bm < q := by omega
  have l2 : w.heap.size + 2 ≤ b := by omega
  have nbm : bm ≠ b := by omega
  have nbm2 : b ≠ bm := by omega
  have nq : q ≠ b := by omega
  have nq2 : b ≠ q := by omega
  have nq3 : bm ≠ q := by omega
  have nq4 : q ≠ bm := by omega
  clear cqo hb2 hb3 b2 b3 hW3 oR oC oO oR3 oC3 oO3 hs1 hs2 hcb hBb hcell hfz HE1 HX16 HXC HBM HB1 HB2 g0 g1 g2 g3 g4 g5 xc hlb hqs hbml hq hbm
  have y1 : W3.cell? ⟨bm, 18, none⟩ = some (.int .i64 (W (exC fc nc 1))) := HXX.out 1 (by omega)
  have y0 : W3.cell? ⟨bm, 17, none⟩ = some (.int .i64 (W (exC fc nc 0))) := HXX.out 0 (by omega)
  have c0 : W3.cell? ⟨b, off, none⟩ = some (.int .i64 (exK fc nc 0)) := HCL.out 0 (by omega)
  have f0 : W3.frozen? ⟨b, off, none⟩ = false := HFZ.out 0 (by omega)
  have c2 := HCL.out 2 (by omega)
  have f2 := HFZ.out 2 (by omega)
  have c3 := HCL.out 3 (by omega)
  have f3 := HFZ.out 3 (by omega)
  have c4 := HCL.out 4 (by omega)
  have f4 := HFZ.out 4 (by omega)
  have i0 : (0 : Int) < (M : Int) := by omega
  have i2 : (2 : Int) < (M : Int) := by omega
  have i3 : (3 : Int) < (M : Int) := by omega
  have i4 : (4 : Int) < (M : Int) := by omega
  have m0 : 0 < M := by omega
  go_upto_region 3 with fail
  rw [HW3.out, HQ.out]
  have b3 := HB3.out
  rw [HQ.out] at b3
  obtain ⟨k0, k1, k2, k3, k4, k5, kf⟩ := b3.cells
  obtain ⟨z0, z1, z2, z3, z4, z5, zf⟩ := HB2'.out.cells
  have d0 := zf 0
  have d1 := zf 1
  have d2 := zf 2
  have d3 := zf 3
  have d4 := zf 4
  have d5 := zf 5
  have e1 := kf 1
  have nz : b ≠ w.heap.size + 1 := by omega
  have nz2 : w.heap.size + 1 ≠ b := by omega
  have nz3 : q ≠ w.heap.size + 1 := by omega
  have nz4 : w.heap.size + 1 ≠ q := by omega
  have HB3' := Lib.hid b3
  clear b3 kf zf
  go_region_held3 (fun w' => w'.cell? ⟨q, 2, none⟩ = some (.slice (some ⟨b, off, none⟩) M cc') ∧ w'.cell? ⟨bm, 16, none⟩ = some (.int .i64 (W pc))) (first | go_keep | assumption) (fail)
  go_wp2_with fail
  go_region_held3 (fun w' => w'.cell? ⟨q, 2, none⟩ = some (.slice (some ⟨b, off, none⟩) M cc')) (first | go_keep | assumption) (first | (go_at_call 17; refine (refW_any _ _).mono ?_; rintro e w' ⟨rfl, rfl⟩))
  go_wp2_with fail
  go_region_held3 (fun w' => w'.cell? ⟨q, 2, none⟩ = some (.slice (some ⟨b, off, none⟩) M cc')) (first | go_keep | assumption) (first | (go_at_call 17; refine (refW_any _ _).mono ?_; rintro e w' ⟨rfl, rfl⟩))
  go_wp2_with fail
  go_region_held3 (fun w' => w'.cell? ⟨q, 2, none⟩ = some (.slice (some ⟨b, off, none⟩) M cc') ∧ w'.cell? ⟨bm, 17, none⟩ = some (.int .i64 (W (exC fc nc 0)))) (first | go_keep | assumption) (first | (go_at_call 64; refine (refEnter_any _ _).mono ?_; rintro e w' ⟨rfl, rfl⟩))
  go_wp2_with fail
  obtain ⟨X, hX⟩ : ∃ X, (((((W3.setCell ⟨b, off + 2, none⟩ (.int .i64 (W pc))).setCell ⟨b, off + 3, none⟩ (.int .i64 (W cause))).setCell ⟨b, off + 4, none⟩ (.int .i64 (W tval))).setCell ⟨b, off, none⟩ (.int .i64 (enterS (W (exC fc nc 0))))).setCell ⟨q, 1, none⟩ (.int .i64 (W (exC fc nc 1)))) = X := ⟨_, rfl⟩
  rw [hX]
  obtain ⟨W6, h6⟩ : ∃ W6, ((((((X.setCell ⟨w.heap.size + 1, 0, none⟩ (.slice ar nr cr')).setCell ⟨w.heap.size + 1, 1, none⟩ (.int .i64 (W (exC fc nc 1)))).setCell ⟨w.heap.size + 1, 2, none⟩ (.slice (some ⟨b, off, none⟩) M cc')).setCell ⟨w.heap.size + 1, 3, none⟩ (.bool hl)).setCell ⟨w.heap.size + 1, 4, none⟩ (.bool st)).setCell ⟨w.heap.size + 1, 5, none⟩ (.slice ao no co')).drew = W6 := ⟨_, rfl⟩
  rw [h6]
  have cne : ∀ d, d ≠ 4 → cq c w2.heap.size q ≠ d := fun d h => by rw [← HQ.out, HCQ.out]; exact fun e => h e.symm
  have cne2 : ∀ d, d ≠ 2 → cq c w2.heap.size b ≠ d := fun d h => by rw [HCB.out]; exact fun e => h e.symm
  have oC := (own_put (own_put (own_put (own_put HoC.out 2 (by omega) (W pc)) 3 (by omega) (W cause)) 4 (by omega) (W tval)) 0 (by omega) (enterS (W (exC fc nc 0)))).far (p := ⟨q, 1, none⟩) (.inr (cne 2 (by decide))) (.int .i64 (W (exC fc nc 1)))
  have oR := ((((HoR.out.far (p := ⟨b, off + 2, none⟩) (.inr (cne2 1 (by decide))) (.int .i64 (W pc))).far (p := ⟨b, off + 3, none⟩) (.inr (cne2 1 (by decide))) (.int .i64 (W cause))).far (p := ⟨b, off + 4, none⟩) (.inr (cne2 1 (by decide))) (.int .i64 (W tval))).far (p := ⟨b, off, none⟩) (.inr (cne2 1 (by decide))) (.int .i64 (enterS (W (exC fc nc 0))))).far (p := ⟨q, 1, none⟩) (.inr (cne 1 (by decide))) (.int .i64 (W (exC fc nc 1)))
  have oO := ((((HoO.out.far (p := ⟨b, off + 2, none⟩) (.inr (cne2 3 (by decide))) (.int .i64 (W pc))).far (p := ⟨b, off + 3, none⟩) (.inr (cne2 3 (by decide))) (.int .i64 (W cause))).far (p := ⟨b, off + 4, none⟩) (.inr (cne2 3 (by decide))) (.int .i64 (W tval))).far (p := ⟨b, off, none⟩) (.inr (cne2 3 (by decide))) (.int .i64 (enterS (W (exC fc nc 0))))).far (p := ⟨q, 1, none⟩) (.inr (cne 3 (by decide))) (.int .i64 (W (exC fc nc 1)))
  have b2 := ((((HB2'.out.far (p := ⟨b, off + 2, none⟩) nz2 (.int .i64 (W pc))).far (p := ⟨b, off + 3, none⟩) nz2 (.int .i64 (W cause))).far (p := ⟨b, off + 4, none⟩) nz2 (.int .i64 (W tval))).far (p := ⟨b, off, none⟩) nz2 (.int .i64 (enterS (W (exC fc nc 0))))).far (p := ⟨q, 1, none⟩) nz4 (.int .i64 (W (exC fc nc 1)))
  have lb : w.heap.size ≤ b := by omega
  have hb := ((((HBN.out.setCell (p := ⟨b, off + 2, none⟩) lb (.int .i64 (W pc))).setCell (p := ⟨b, off + 3, none⟩) lb (.int .i64 (W cause))).setCell (p := ⟨b, off + 4, none⟩) lb (.int .i64 (W tval))).setCell (p := ⟨b, off, none⟩) lb (.int .i64 (enterS (W (exC fc nc 0))))).setCell (p := ⟨q, 1, none⟩) (show w.heap.size ≤ q by omega) (.int .i64 (W (exC fc nc 1)))
  have oC' : Own (((((W3.setCell ⟨b, off + 2, none⟩ (.int .i64 (W pc))).setCell ⟨b, off + 3, none⟩ (.int .i64 (W cause))).setCell ⟨b, off + 4, none⟩ (.int .i64 (W tval))).setCell ⟨b, off, none⟩ (.int .i64 (enterS (W (exC fc nc 0))))).setCell ⟨q, 1, none⟩ (.int .i64 (W (exC fc nc 1)))) (cq c w2.heap.size) 2 w1.heap.size (.slice (some ⟨b, off, none⟩) M cc') (csL (fun j => if j = 0 then enterS (W (exC fc nc 0)) else if j = 4 then W tval else if j = 3 then W cause else if j = 2 then W pc else exK fc nc j) M) := oC
  have hfun : (fun j => if j = 0 then enterS (W (exC fc nc 0)) else if j = 4 then W tval else if j = 3 then W cause else if j = 2 then W pc else exK fc nc j) = entF fc nc pc cause tval := by funext j; unfold entF; rw [enterS_W]; rfl
  rw [hfun] at oC'
  rw [hX] at oC' oR oO b2 hb
  have hB0 : w.heap.size + 2 ≤ w1.heap.size := HB0.out
  obtain ⟨b6, hP⟩ := fin_st b2 hB0 oR oC' oO hb h6
  have b9 : Box W6.drew.drew.drew (w.heap.size + 1) 37 (.slice ar nr cr') (.int .i64 (W (exC fc nc 1))) (.slice (some ⟨b, off, none⟩) M cc') (.bool hl) (.bool st) (.slice ao no co') := b6
  obtain ⟨r0, r1, r2, r3, r4, r5, _⟩ := b9.cells
  exact bodyPost_ret (v := .agg #[.slice ar nr cr', .int .i64 (W (exC fc nc 1)), .slice (some ⟨b, off, none⟩) M cc', .bool hl, .bool st, .slice ao no co']) (by simp [results, Try.results30, go_sem] at r0 r1 r2 r3 r4 r5 ⊢; simp [r0, r1, r2, r3, r4, r5]) rfl hP.drew.drew.drew
end Go.Proofs.Ytodkenbkogfefaa
