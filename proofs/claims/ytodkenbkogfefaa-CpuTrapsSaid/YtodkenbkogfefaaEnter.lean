/- What cpu.Enter and cpu.Leave make of a state in memory: contracts. -/
import Derived.Test.YtodkenbkogfefaaCopied
import Derived.Test.YtodkenbkogfefaaCsr
import Derived.Deep.RegionHeld3
import Derived.Deep.DrawnRows
namespace Go.Proofs.Ytodkenbkogfefaa
open Go.RowKit

theorem fin_st {w X W6 : World} {t nr M no cr cc co B0 : Nat} {c : Nat → Nat} {ar ac ao : Option Addr} {pc : Int} {hl st : Bool} {fr F : Nat → Int} {bo : List Int} {r0 r1 r2 r3 r4 r5 : Value} (b2 : Box X (w.heap.size + 1) t r0 r1 r2 r3 r4 r5) (hB0 : w.heap.size + 2 ≤ B0)
    (oR : Own X c 1 B0 (.slice ar nr cr) (csL fr nr)) (oC : Own X c 2 B0 (.slice ac M cc) (csL F M)) (oO : Own X c 3 B0 (.slice ao no co) (bys bo)) (hb : Below w.heap.size w X)
    (h6 : ((((((X.setCell ⟨w.heap.size + 1, 0, none⟩ (.slice ar nr cr)).setCell ⟨w.heap.size + 1, 1, none⟩ (.int .i64 pc)).setCell ⟨w.heap.size + 1, 2, none⟩ (.slice ac M cc)).setCell ⟨w.heap.size + 1, 3, none⟩ (.bool hl)).setCell ⟨w.heap.size + 1, 4, none⟩ (.bool st)).setCell ⟨w.heap.size + 1, 5, none⟩ (.slice ao no co)).drew = W6) :
    Box W6 (w.heap.size + 1) t (.slice ar nr cr) (.int .i64 pc) (.slice ac M cc) (.bool hl) (.bool st) (.slice ao no co) ∧ StP w nr M no pc hl st fr F bo (.returned (.agg #[.slice ar nr cr, .int .i64 pc, .slice ac M cc, .bool hl, .bool st, .slice ao no co])) W6 := by
  obtain ⟨Y, hY⟩ : ∃ Y, ((((((X.setCell ⟨w.heap.size + 1, 0, none⟩ (.slice ar nr cr)).setCell ⟨w.heap.size + 1, 1, none⟩ (.int .i64 pc)).setCell ⟨w.heap.size + 1, 2, none⟩ (.slice ac M cc)).setCell ⟨w.heap.size + 1, 3, none⟩ (.bool hl)).setCell ⟨w.heap.size + 1, 4, none⟩ (.bool st)).setCell ⟨w.heap.size + 1, 5, none⟩ (.slice ao no co)) = Y := ⟨_, rfl⟩
  obtain ⟨b4, k4, s4, l4⟩ := st6 b2 hY
  rw [hY] at h6
  subst h6
  have key : ∀ {d : Nat} {v : Value} {xs : List Value}, Own X c d B0 v xs → Own Y.drew c d w.heap.size v xs := fun h => (h.keep (w' := Y.drew) (by rw [← s4]; exact Nat.le_refl _) fun k hB _ hc => ⟨hc, k4 k (by omega)⟩).base (by omega)
  exact ⟨b4, c, ar, cr, ac, cc, ao, co, rfl, key oR, key oC, key oO, (hb.trans (l4 _ (by omega))).drew⟩
def entF (f : Nat → Int) (n : Nat) (pc cause tval : Int) (k : Nat) : Int := if k = 0 then enterS (exC f n 0) else if k = 4 then W tval else if k = 3 then W cause else if k = 2 then W pc else exC f n k
def leaF (f : Nat → Int) (n : Nat) (k : Nat) : Int := if k = 0 then leaveS (exC f n 0) else exC f n k
set_option maxRecDepth 100000 in
set_option maxHeartbeats 4000000 in
theorem enterSt_any (w : World) (Ar Ac Ao : Option Addr) (nr cr nc cc no co : Nat) (pc : Int) (hl st : Bool) (fr fc : Nat → Int) (bo : List Int) (cause tval : Int)
    (hr : IntsAt w Ar nr fr) (hrn : Ar = none → cr = 0) (hnr : nr ≤ 100000) (hc : IntsAt w Ac nc fc) (hnc : nc ≤ 100000) (ho : Src w Ao no (bys bo)) (hon : Ao = none → co = 0) (hno : no ≤ 100000) :
    Calls Try.prog 24 #[.agg #[.slice Ar nr cr, .int .i64 pc, .slice Ac nc cc, .bool hl, .bool st, .slice Ao no co], .int .i64 cause, .int .i64 tval] w (StP w nr (max 11 nc) no (W (exC fc nc 1)) hl st fr (entF fc nc pc cause tval) bo) := by
  obtain ⟨M, hM⟩ : ∃ M, max 11 nc = M := ⟨_, rfl⟩
  rw [hM]
  have hM2 : 11 ≤ M := by omega
  have HM := Lib.hid hM
  clear hM
  have HR := Lib.hid hr
  have HC := Lib.hid hc
  have HO := Lib.hid ho
  clear hr hc ho
  obtain ⟨W0, hW0⟩ : ∃ W0, ((w.alloc (Obj.cells #[.slice Ar nr cr, .int .i64 pc, .slice Ac nc cc, .bool hl, .bool st, .slice Ao no co] 37)).alloc (Obj.cells #[.slice none 0 0, .int .i64 0, .slice none 0 0, .bool false, .bool false, .slice none 0 0] 37)) = W0 := ⟨_, rfl⟩
  have b1 : Box W0 w.heap.size 37 (.slice Ar nr cr) (.int .i64 pc) (.slice Ac nc cc) (.bool hl) (.bool st) (.slice Ao no co) := by rw [← hW0]; exact (Box.new _ _ _ _ _ _ _ _).alloc _
  have b2 : Box W0 (w.heap.size + 1) 37 (.slice none 0 0) (.int .i64 0) (.slice none 0 0) (.bool false) (.bool false) (.slice none 0 0) := by rw [← hW0]; simpa using Box.new (w.alloc (Obj.cells #[.slice Ar nr cr, .int .i64 pc, .slice Ac nc cc, .bool hl, .bool st, .slice Ao no co] 37)) 37 (.slice none 0 0) (.int .i64 0) (.slice none 0 0) (.bool false) (.bool false) (.slice none 0 0)
  have hs0 : W0.heap.size = w.heap.size + 2 := by rw [← hW0]; simp
  have hbw : Below w.heap.size w W0 := by rw [← hW0]; exact ((Below.refl _ _).alloc (Nat.le_refl _) _).alloc (by simp) _
  have HW0 := Lib.hid hW0
  have HB1 := Lib.hid b1
  have HB2 := Lib.hid b2
  have HS0 := Lib.hid hs0
  have HBW := Lib.hid hbw
  clear hW0 b1 b2 hs0 hbw
  go_enter Try.func24, Try.ntmps24
  go_wp2_with fail
  rw [HW0.out]
  refine (copied_any _ _ _ _ _ _ _ _ _ _ _ _ _ fr fc bo (HR.out.below HBW.out) hrn hnr (HC.out.below HBW.out) hnc (HO.out.below HBW.out) hon hno).mono ?_
  rintro e w1 ⟨c, ar, cr', ac, cc', ao, co', rfl, oR, oC, oO, hbe⟩
  rw [HM.out] at oC ⊢
  obtain ⟨g0, g1, g2, g3, g4, g5, gf⟩ := (HB1.out.below hbe HB1.out.lt).cells
  have e0 := gf 0
  have e1 := gf 1
  have e2 := gf 2
  have e3 := gf 3
  have e4 := gf 4
  have e5 := gf 5
  have HE1 := Lib.hid hbe
  have HoR := Lib.hid oR
  have HoC := Lib.hid oC
  have HoO := Lib.hid oO
  clear hbe oR oC oO gf
  go_wp2_with fail
  clear g0 g1 g2 g3 g4 g5 e0 e1 e2 e3 e4 e5
  obtain ⟨W1, hW1⟩ : ∃ W1, ((((((w1.setCell ⟨w.heap.size, 0, none⟩ (.slice ar nr cr')).setCell ⟨w.heap.size, 1, none⟩ (.int .i64 pc)).setCell ⟨w.heap.size, 2, none⟩ (.slice ac M cc')).setCell ⟨w.heap.size, 3, none⟩ (.bool hl)).setCell ⟨w.heap.size, 4, none⟩ (.bool st)).setCell ⟨w.heap.size, 5, none⟩ (.slice ao no co')) = W1 := ⟨_, rfl⟩
  rw [hW1]
  obtain ⟨b1, k1, s1, l1⟩ := st6 (HB1.out.below HE1.out HB1.out.lt) hW1
  have b2 := (HB2.out.below HE1.out HB2.out.lt).keep (k1 _ (by omega))
  have hs0 := HS0.out
  have hs1 := HE1.out.size
  have oR := HoR.out.keep (w' := W1) (c' := c) (d' := 1) (by omega) fun k hB hk hc => ⟨hc, k1 k (by omega)⟩
  have oC := HoC.out.keep (w' := W1) (c' := c) (d' := 2) (by omega) fun k hB hk hc => ⟨hc, k1 k (by omega)⟩
  have oO := HoO.out.keep (w' := W1) (c' := c) (d' := 3) (by omega) fun k hB hk hc => ⟨hc, k1 k (by omega)⟩
  have hbw1 : Below w.heap.size w W1 := (HBW.out.trans (HE1.out.mono HBW.out.size)).trans (l1 _ (Nat.le_refl _))
  obtain ⟨b, off, rfl, hcb, hBb, hlb, hcell, hfz⟩ := own_at oC (by omega)
  have hb2 : w.heap.size + 2 ≤ b := by omega
  obtain ⟨g0, g1, g2, g3, g4, g5, gf⟩ := b1.cells
  have HB1' := Lib.hid b1
  have HB2' := Lib.hid b2
  have HoR' := Lib.hid oR
  have HoC' := Lib.hid oC
  have HoO' := Lib.hid oO
  have HBW1 := Lib.hid hbw1
  have HCB := Lib.hid hcb
  have HBb := Lib.hid hBb
  clear HB1 HB2 HoR HoC HoO b1 b2 oR oC oO hbw1 hcb hW1 k1 l1 s1 hlb
  have c2 := hcell 2 (by omega)
  have c3 := hcell 3 (by omega)
  have c4 := hcell 4 (by omega)
  have f2 := hfz 2 (by omega)
  have f3 := hfz 3 (by omega)
  have f4 := hfz 4 (by omega)
  have HCL := Lib.hid hcell
  have HFZ := Lib.hid hfz
  have HGF := Lib.hid gf
  have ne2 : b ≠ w.heap.size := by omega
  have i0 : (0 : Int) < (M : Int) := by omega
  have i1 : (1 : Int) < (M : Int) := by omega
  have i2 : (2 : Int) < (M : Int) := by omega
  have i3 : (3 : Int) < (M : Int) := by omega
  have i4 : (4 : Int) < (M : Int) := by omega
  have HHS := Lib.hid hs0
  have HHS1 := Lib.hid hs1
  clear hcell hfz gf hBb hs0 hs1
  go_region_held3 (fun w' => w'.cell? ⟨w.heap.size, 1, none⟩ = some (.int .i64 pc) ∧ w'.cell? ⟨w.heap.size, 2, none⟩ = some (.slice (some ⟨b, off, none⟩) M cc')) (first | go_keep | assumption) (first | (go_at_call 33; refine (of_any _ _).mono ?_; rintro e w' ⟨rfl, rfl⟩))
  go_wp2_with fail
  clear g0 g1 g2 g3 g4 g5 c2 c3 c4 f2 f3 f4
  have hin : ∀ k, k < M → W1.cell? ⟨b, off + k, none⟩ = some (.int .i64 (exC fc nc k)) := HCL.out
  obtain ⟨W2, hW2⟩ : ∃ W2, (((W1.setCell ⟨b, off + 2, none⟩ (.int .i64 (W pc))).setCell ⟨b, off + 3, none⟩ (.int .i64 (W cause))).setCell ⟨b, off + 4, none⟩ (.int .i64 (W tval))).drew = W2 := ⟨_, rfl⟩
  have oC : Own W2 c 2 W0.heap.size (.slice (some ⟨b, off, none⟩) M cc') (csL (fun j => if j = 4 then W tval else if j = 3 then W cause else if j = 2 then W pc else exC fc nc j) M) := by rw [← hW2]; exact own_put (own_put (own_put HoC'.out 2 (by omega) (W pc)) 3 (by omega) (W cause)) 4 (by omega) (W tval)
  have hcb : ∀ d, d ≠ 2 → c b ≠ d := fun d h => by rw [HCB.out]; exact fun e => h e.symm
  have oR : Own W2 c 1 W0.heap.size (.slice ar nr cr') (csL fr nr) := by rw [← hW2]; exact ((HoR'.out.far (p := ⟨b, off + 2, none⟩) (.inr (hcb 1 (by decide))) _).far (p := ⟨b, off + 3, none⟩) (.inr (hcb 1 (by decide))) _).far (p := ⟨b, off + 4, none⟩) (.inr (hcb 1 (by decide))) _
  have oO : Own W2 c 3 W0.heap.size (.slice ao no co') (bys bo) := by rw [← hW2]; exact ((HoO'.out.far (p := ⟨b, off + 2, none⟩) (.inr (hcb 3 (by decide))) _).far (p := ⟨b, off + 3, none⟩) (.inr (hcb 3 (by decide))) _).far (p := ⟨b, off + 4, none⟩) (.inr (hcb 3 (by decide))) _
  have n1 : w.heap.size ≠ b := by omega
  have n2 : w.heap.size + 1 ≠ b := by omega
  have b1 := ((HB1'.out.far (p := ⟨b, off + 2, none⟩) n1 (.int .i64 (W pc))).far (p := ⟨b, off + 3, none⟩) n1 (.int .i64 (W cause))).far (p := ⟨b, off + 4, none⟩) n1 (.int .i64 (W tval))
  have b2 := ((HB2'.out.far (p := ⟨b, off + 2, none⟩) n2 (.int .i64 (W pc))).far (p := ⟨b, off + 3, none⟩) n2 (.int .i64 (W cause))).far (p := ⟨b, off + 4, none⟩) n2 (.int .i64 (W tval))
  have b1' : Box W2 w.heap.size 37 (.slice ar nr cr') (.int .i64 pc) (.slice (some ⟨b, off, none⟩) M cc') (.bool hl) (.bool st) (.slice ao no co') := by rw [← hW2]; exact b1
  have b2' : Box W2 (w.heap.size + 1) 37 (.slice none 0 0) (.int .i64 0) (.slice none 0 0) (.bool false) (.bool false) (.slice none 0 0) := by rw [← hW2]; exact b2
  have hbw2 : Below w.heap.size w W2 := by
    have hle : w.heap.size ≤ b := by omega
    rw [← hW2]; exact (((HBW1.out.setCell (p := ⟨b, off + 2, none⟩) hle _).setCell (p := ⟨b, off + 3, none⟩) hle _).setCell (p := ⟨b, off + 4, none⟩) hle _).drew
  rw [hW2]
  clear b1 b2 HB1' HB2' HoR' HoC' HoO' HBW1 HCL HFZ HGF hin hW2
  have HB1' := Lib.hid b1'
  have HB2' := Lib.hid b2'
  have HoR' := Lib.hid oR
  have HoC' := Lib.hid oC
  have HoO' := Lib.hid oO
  have HBW1 := Lib.hid hbw2
  have HCD := Lib.hid hcb
  obtain ⟨g0, g1, g2, g3, g4, g5, gf⟩ := b1'.cells
  clear b1' b2' oR oC oO hbw2 hcb gf
  obtain ⟨bb, oo, heq, _, _, _, hcell, hfz⟩ := own_at HoC'.out (by omega)
  injection heq with heq
  injection heq with heq1 heq2
  subst heq1 heq2
  have c0 : W2.cell? ⟨b, off, none⟩ = some (.int .i64 (exC fc nc 0)) := hcell 0 (by omega)
  have f0 : W2.frozen? ⟨b, off, none⟩ = false := hfz 0 (by omega)
  have c1 : W2.cell? ⟨b, off + 1, none⟩ = some (.int .i64 (exC fc nc 1)) := hcell 1 (by omega)
  clear hcell hfz
  have m0 : 0 < M := by omega
  go_region_with (first | (go_at_call 59; refine (enter_any _ _).mono ?_; rintro e w' ⟨rfl, rfl⟩))
  all_goals
    obtain ⟨q0, q1, q2, q3, q4, q5, qf⟩ := HB2'.out.cells
    have d0 := qf 0
    have d1 := qf 1
    have d2 := qf 2
    have d3 := qf 3
    have d4 := qf 4
    have d5 := qf 5
    have e1 := HB1'.out.cells.2.2.2.2.2.2 1
    clear qf
    go_wp2_with (first | (go_at_call 33; refine (of_any _ _).mono ?_; rintro e w' ⟨rfl, rfl⟩))
    obtain ⟨W6, h6⟩ : ∃ W6, ((((((((W2.setCell ⟨b, off, none⟩ (.int .i64 (enterS (exC fc nc 0)))).setCell ⟨w.heap.size, 1, none⟩ (.int .i64 (W (exC fc nc 1)))).setCell ⟨w.heap.size + 1, 0, none⟩ (.slice ar nr cr')).setCell ⟨w.heap.size + 1, 1, none⟩ (.int .i64 (W (exC fc nc 1)))).setCell ⟨w.heap.size + 1, 2, none⟩ (.slice (some ⟨b, off, none⟩) M cc')).setCell ⟨w.heap.size + 1, 3, none⟩ (.bool hl)).setCell ⟨w.heap.size + 1, 4, none⟩ (.bool st)).setCell ⟨w.heap.size + 1, 5, none⟩ (.slice ao no co')).drew = W6 := ⟨_, rfl⟩
    rw [h6]
    have hs0 := HS0.out
    have oC : Own ((W2.setCell ⟨b, off, none⟩ (.int .i64 (enterS (exC fc nc 0)))).setCell ⟨w.heap.size, 1, none⟩ (.int .i64 (W (exC fc nc 1)))) c 2 W0.heap.size (.slice (some ⟨b, off, none⟩) M cc') (csL (entF fc nc pc cause tval) M) := (own_put HoC'.out 0 (by omega) (enterS (exC fc nc 0))).far (p := ⟨w.heap.size, 1, none⟩) (.inl (by show w.heap.size < _; omega)) _
    have oR := (HoR'.out.far (p := ⟨b, off, none⟩) (.inr (HCD.out 1 (by decide))) (.int .i64 (enterS (exC fc nc 0)))).far (p := ⟨w.heap.size, 1, none⟩) (.inl (by show w.heap.size < _; omega)) (.int .i64 (W (exC fc nc 1)))
    have oO := (HoO'.out.far (p := ⟨b, off, none⟩) (.inr (HCD.out 3 (by decide))) (.int .i64 (enterS (exC fc nc 0)))).far (p := ⟨w.heap.size, 1, none⟩) (.inl (by show w.heap.size < _; omega)) (.int .i64 (W (exC fc nc 1)))
    have b2 := (HB2'.out.far (p := ⟨b, off, none⟩) n2 (.int .i64 (enterS (exC fc nc 0)))).far (p := ⟨w.heap.size, 1, none⟩) (by show w.heap.size + 1 ≠ w.heap.size; omega) (.int .i64 (W (exC fc nc 1)))
    have hb := (HBW1.out.setCell (p := ⟨b, off, none⟩) (show w.heap.size ≤ b by omega) (.int .i64 (enterS (exC fc nc 0)))).setCell (p := ⟨w.heap.size, 1, none⟩) (Nat.le_refl _) (.int .i64 (W (exC fc nc 1)))
    obtain ⟨b6, hP⟩ := fin_st b2 (by omega) oR oC oO hb h6
    obtain ⟨r0, r1, r2, r3, r4, r5, _⟩ := b6.cells
    exact bodyPost_ret (v := .agg #[.slice ar nr cr', .int .i64 (W (exC fc nc 1)), .slice (some ⟨b, off, none⟩) M cc', .bool hl, .bool st, .slice ao no co']) (by simp [results, Try.results24, go_sem, r0, r1, r2, r3, r4, r5]) rfl hP
set_option maxRecDepth 100000 in
set_option maxHeartbeats 4000000 in
theorem leaveSt_any (w : World) (Ar Ac Ao : Option Addr) (nr cr nc cc no co : Nat) (pc : Int) (hl st : Bool) (fr fc : Nat → Int) (bo : List Int)
    (hr : IntsAt w Ar nr fr) (hrn : Ar = none → cr = 0) (hnr : nr ≤ 100000) (hc : IntsAt w Ac nc fc) (hnc : nc ≤ 100000) (ho : Src w Ao no (bys bo)) (hon : Ao = none → co = 0) (hno : no ≤ 100000) :
    Calls Try.prog 25 #[.agg #[.slice Ar nr cr, .int .i64 pc, .slice Ac nc cc, .bool hl, .bool st, .slice Ao no co]] w (StP w nr (max 11 nc) no (W (exC fc nc 2)) hl st fr (leaF fc nc) bo) := by
  obtain ⟨M, hM⟩ : ∃ M, max 11 nc = M := ⟨_, rfl⟩
  rw [hM]
  have hM2 : 11 ≤ M := by omega
  have HM := Lib.hid hM
  clear hM
  have HR := Lib.hid hr
  have HC := Lib.hid hc
  have HO := Lib.hid ho
  clear hr hc ho
  obtain ⟨W0, hW0⟩ : ∃ W0, ((w.alloc (Obj.cells #[.slice Ar nr cr, .int .i64 pc, .slice Ac nc cc, .bool hl, .bool st, .slice Ao no co] 37)).alloc (Obj.cells #[.slice none 0 0, .int .i64 0, .slice none 0 0, .bool false, .bool false, .slice none 0 0] 37)) = W0 := ⟨_, rfl⟩
  have b1 : Box W0 w.heap.size 37 (.slice Ar nr cr) (.int .i64 pc) (.slice Ac nc cc) (.bool hl) (.bool st) (.slice Ao no co) := by rw [← hW0]; exact (Box.new _ _ _ _ _ _ _ _).alloc _
  have b2 : Box W0 (w.heap.size + 1) 37 (.slice none 0 0) (.int .i64 0) (.slice none 0 0) (.bool false) (.bool false) (.slice none 0 0) := by rw [← hW0]; simpa using Box.new (w.alloc (Obj.cells #[.slice Ar nr cr, .int .i64 pc, .slice Ac nc cc, .bool hl, .bool st, .slice Ao no co] 37)) 37 (.slice none 0 0) (.int .i64 0) (.slice none 0 0) (.bool false) (.bool false) (.slice none 0 0)
  have hs0 : W0.heap.size = w.heap.size + 2 := by rw [← hW0]; simp
  have hbw : Below w.heap.size w W0 := by rw [← hW0]; exact ((Below.refl _ _).alloc (Nat.le_refl _) _).alloc (by simp) _
  have HW0 := Lib.hid hW0
  have HB1 := Lib.hid b1
  have HB2 := Lib.hid b2
  have HS0 := Lib.hid hs0
  have HBW := Lib.hid hbw
  clear hW0 b1 b2 hs0 hbw
  go_enter Try.func25, Try.ntmps25
  go_wp2_with fail
  rw [HW0.out]
  refine (copied_any _ _ _ _ _ _ _ _ _ _ _ _ _ fr fc bo (HR.out.below HBW.out) hrn hnr (HC.out.below HBW.out) hnc (HO.out.below HBW.out) hon hno).mono ?_
  rintro e w1 ⟨c, ar, cr', ac, cc', ao, co', rfl, oR, oC, oO, hbe⟩
  rw [HM.out] at oC ⊢
  obtain ⟨g0, g1, g2, g3, g4, g5, gf⟩ := (HB1.out.below hbe HB1.out.lt).cells
  have e0 := gf 0
  have e1 := gf 1
  have e2 := gf 2
  have e3 := gf 3
  have e4 := gf 4
  have e5 := gf 5
  have HE1 := Lib.hid hbe
  have HoR := Lib.hid oR
  have HoC := Lib.hid oC
  have HoO := Lib.hid oO
  clear hbe oR oC oO gf
  obtain ⟨b, off, rfl, hcb, hBb, hlb, hcell, hfz⟩ := own_at HoC.out (by omega)
  have hs0 := HS0.out
  have hs1 := HE1.out.size
  have c2 := hcell 2 (by omega)
  have ne2 : b ≠ w.heap.size := by omega
  have i0 : (0 : Int) < (M : Int) := by omega
  have i2 : (2 : Int) < (M : Int) := by omega
  have m0 : 0 < M := by omega
  have hb2 : w.heap.size + 2 ≤ b := by omega
  have HCB := Lib.hid hcb
  have HHS := Lib.hid hs0
  clear hcb hcell hfz hs0 hs1 hBb hlb
  go_wp2_with (first | (go_at_call 33; refine (of_any _ _).mono ?_; rintro e w' ⟨rfl, rfl⟩))
  clear g0 g1 g2 g3 g4 g5 e0 e1 e2 e3 e4 e5 c2
  obtain ⟨W1, hW1⟩ : ∃ W1, ((((((w1.setCell ⟨w.heap.size, 0, none⟩ (.slice ar nr cr')).setCell ⟨w.heap.size, 1, none⟩ (.int .i64 pc)).setCell ⟨w.heap.size, 2, none⟩ (.slice (some ⟨b, off, none⟩) M cc')).setCell ⟨w.heap.size, 3, none⟩ (.bool hl)).setCell ⟨w.heap.size, 4, none⟩ (.bool st)).setCell ⟨w.heap.size, 5, none⟩ (.slice ao no co')) = W1 := ⟨_, rfl⟩
  rw [hW1]
  obtain ⟨b1, k1, s1, l1⟩ := st6 (HB1.out.below HE1.out HB1.out.lt) hW1
  have b2 := (HB2.out.below HE1.out HB2.out.lt).keep (k1 _ (by omega))
  have hs0 := HS0.out
  have hs1 := HE1.out.size
  have oR := HoR.out.keep (w' := W1) (c' := c) (d' := 1) (by omega) fun k hB hk hc => ⟨hc, k1 k (by omega)⟩
  have oC := HoC.out.keep (w' := W1) (c' := c) (d' := 2) (by omega) fun k hB hk hc => ⟨hc, k1 k (by omega)⟩
  have oO := HoO.out.keep (w' := W1) (c' := c) (d' := 3) (by omega) fun k hB hk hc => ⟨hc, k1 k (by omega)⟩
  have hbw1 : Below w.heap.size w W1 := (HBW.out.trans (HE1.out.mono HBW.out.size)).trans (l1 _ (Nat.le_refl _))
  obtain ⟨W2, hW2⟩ : ∃ W2, (W1.setCell ⟨w.heap.size, 1, none⟩ (.int .i64 (W (exC fc nc 2)))) = W2 := ⟨_, rfl⟩
  rw [hW2]
  have lo : w.heap.size < W0.heap.size := by omega
  have oR2 := oR.far (p := ⟨w.heap.size, 1, none⟩) (.inl lo) (.int .i64 (W (exC fc nc 2)))
  have oC2 := oC.far (p := ⟨w.heap.size, 1, none⟩) (.inl lo) (.int .i64 (W (exC fc nc 2)))
  have oO2 := oO.far (p := ⟨w.heap.size, 1, none⟩) (.inl lo) (.int .i64 (W (exC fc nc 2)))
  have b12 := b1.set1 (.int .i64 (W (exC fc nc 2)))
  have b22 := b2.far (p := ⟨w.heap.size, 1, none⟩) (by show w.heap.size + 1 ≠ w.heap.size; omega) (.int .i64 (W (exC fc nc 2)))
  have hbw2 := hbw1.setCell (p := ⟨w.heap.size, 1, none⟩) (Nat.le_refl _) (.int .i64 (W (exC fc nc 2)))
  rw [hW2] at oR2 oC2 oO2 b12 b22 hbw2
  obtain ⟨g0, g1, g2, g3, g4, g5, gf⟩ := b12.cells
  obtain ⟨bb, oo, heq, _, _, _, hcell, hfz⟩ := own_at oC2 (by omega)
  injection heq with heq
  injection heq with heq1 heq2
  subst heq1 heq2
  have c0 : W2.cell? ⟨b, off, none⟩ = some (.int .i64 (exC fc nc 0)) := hcell 0 (by omega)
  have f0 : W2.frozen? ⟨b, off, none⟩ = false := hfz 0 (by omega)
  obtain ⟨q0, q1, q2, q3, q4, q5, qf⟩ := b22.cells
  have d0 := qf 0
  have d1 := qf 1
  have d2 := qf 2
  have d3 := qf 3
  have d4 := qf 4
  have d5 := qf 5
  have HB2' := Lib.hid b22
  have HoR' := Lib.hid oR2
  have HoC' := Lib.hid oC2
  have HoO' := Lib.hid oO2
  have HBW2 := Lib.hid hbw2
  clear hcell hfz qf gf b1 b12 b22 b2 oR oC oO oR2 oC2 oO2 hbw1 hbw2 hW1 hW2 k1 s1 l1 HB1 HB2 HoR HoC HoO lo hs0 hs1
  go_region_with (first | (go_at_call 60; refine (leave_any _ _).mono ?_; rintro e w' ⟨rfl, rfl⟩))
  all_goals
    go_wp2_with fail
    obtain ⟨W6, h6⟩ : ∃ W6, (((((((W2.setCell ⟨b, off, none⟩ (.int .i64 (leaveS (exC fc nc 0)))).setCell ⟨w.heap.size + 1, 0, none⟩ (.slice ar nr cr')).setCell ⟨w.heap.size + 1, 1, none⟩ (.int .i64 (W (exC fc nc 2)))).setCell ⟨w.heap.size + 1, 2, none⟩ (.slice (some ⟨b, off, none⟩) M cc')).setCell ⟨w.heap.size + 1, 3, none⟩ (.bool hl)).setCell ⟨w.heap.size + 1, 4, none⟩ (.bool st)).setCell ⟨w.heap.size + 1, 5, none⟩ (.slice ao no co')).drew = W6 := ⟨_, rfl⟩
    rw [h6]
    have hs0 := HS0.out
    have hcd : ∀ d, d ≠ 2 → c b ≠ d := fun d h => by rw [HCB.out]; exact fun e => h e.symm
    have oC : Own (W2.setCell ⟨b, off, none⟩ (.int .i64 (leaveS (exC fc nc 0)))) c 2 W0.heap.size (.slice (some ⟨b, off, none⟩) M cc') (csL (leaF fc nc) M) := own_put HoC'.out 0 (by omega) (leaveS (exC fc nc 0))
    have oR := HoR'.out.far (p := ⟨b, off, none⟩) (.inr (hcd 1 (by decide))) (.int .i64 (leaveS (exC fc nc 0)))
    have oO := HoO'.out.far (p := ⟨b, off, none⟩) (.inr (hcd 3 (by decide))) (.int .i64 (leaveS (exC fc nc 0)))
    have b2 := HB2'.out.far (p := ⟨b, off, none⟩) (show w.heap.size + 1 ≠ b by omega) (.int .i64 (leaveS (exC fc nc 0)))
    have hb := HBW2.out.setCell (p := ⟨b, off, none⟩) (show w.heap.size ≤ b by omega) (.int .i64 (leaveS (exC fc nc 0)))
    obtain ⟨b6, hP⟩ := fin_st b2 (by omega) oR oC oO hb h6
    obtain ⟨r0, r1, r2, r3, r4, r5, _⟩ := b6.cells
    exact bodyPost_ret (v := .agg #[.slice ar nr cr', .int .i64 (W (exC fc nc 2)), .slice (some ⟨b, off, none⟩) M cc', .bool hl, .bool st, .slice ao no co']) (by simp [results, Try.results25, go_sem, r0, r1, r2, r3, r4, r5]) rfl hP
end Go.Proofs.Ytodkenbkogfefaa
