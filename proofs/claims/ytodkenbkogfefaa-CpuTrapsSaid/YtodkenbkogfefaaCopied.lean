/- What cpu.copied makes of a state in memory: a contract. -/
import Derived.Test.YtodkenbkogfefaaBox
import Derived.Test.YtodkenbkogfefaaClone
import Derived.Deep.RegionWith
import Derived.BigRegion
import Derived.Outline
namespace Go.Proofs.Ytodkenbkogfefaa
open Go.RowKit

def exC (f : Nat → Int) (n k : Nat) : Int := if k < n then f k else 0
theorem Try.infoI : (Try.prog.info? 3).map (fun i => (i.zero, i.size, i.bytes)) = some (some (.int .i64 0), 1, 8) := by kernel_rfl
theorem Try.sizeI : (Try.prog.info? 3).map (·.size) = some 1 := by kernel_rfl
theorem stp_below {w w' : World} {c c' : Nat → Nat} {B : Nat} (h : Stp B (fun _ => False) w c w' c') : Below w.heap.size w w' :=
  ⟨h.os, h.tape, h.output, h.size, fun k hk => h.block k hk (.inr (fun h => h))⟩
def cG (g k : Nat) : Nat := if k < g then 1 else if k = g then 2 else 3
set_option maxRecDepth 100000 in
set_option maxHeartbeats 4000000 in
theorem copied_any (w : World) (Ar Ac Ao : Option Addr) (nr cr nc cc no co : Nat) (pc : Int) (hl st : Bool) (fr fc : Nat → Int) (bo : List Int)
    (hr : IntsAt w Ar nr fr) (hrn : Ar = none → cr = 0) (hnr : nr ≤ 100000) (hc : IntsAt w Ac nc fc) (hnc : nc ≤ 100000) (ho : Src w Ao no (bys bo)) (hon : Ao = none → co = 0) (hno : no ≤ 100000) :
    Calls Try.prog 58 #[.agg #[.slice Ar nr cr, .int .i64 pc, .slice Ac nc cc, .bool hl, .bool st, .slice Ao no co]] w (StP w nr (max 11 nc) no pc hl st fr (exC fc nc) bo) := by
  obtain ⟨i0, hi, hz0, hz1, hz2⟩ := info_parts Try.infoI
  have Hi := Lib.hid hi
  have Hz0 := Lib.hid hz0
  have Hz1 := Lib.hid hz1
  have Hz2 := Lib.hid hz2
  clear hi hz0 hz1 hz2
  have HR := Lib.hid (ints_src' hr)
  have HC := Lib.hid hc
  have HO := Lib.hid ho
  clear hr hc ho
  obtain ⟨W0, hW0⟩ : ∃ W0, ((w.alloc (Obj.cells #[.slice Ar nr cr, .int .i64 pc, .slice Ac nc cc, .bool hl, .bool st, .slice Ao no co] 37)).alloc (Obj.cells #[.slice none 0 0, .int .i64 0, .slice none 0 0, .bool false, .bool false, .slice none 0 0] 37)) = W0 := ⟨_, rfl⟩
  have b1 : Box W0 w.heap.size 37 (.slice Ar nr cr) (.int .i64 pc) (.slice Ac nc cc) (.bool hl) (.bool st) (.slice Ao no co) := by rw [← hW0]; exact (Box.new _ _ _ _ _ _ _ _).alloc _
  have b2 : Box W0 (w.heap.size + 1) 37 (.slice none 0 0) (.int .i64 0) (.slice none 0 0) (.bool false) (.bool false) (.slice none 0 0) := by rw [← hW0]; simpa using Box.new (w.alloc (Obj.cells #[.slice Ar nr cr, .int .i64 pc, .slice Ac nc cc, .bool hl, .bool st, .slice Ao no co] 37)) 37 (.slice none 0 0) (.int .i64 0) (.slice none 0 0) (.bool false) (.bool false) (.slice none 0 0)
  have hs0 : W0.heap.size = w.heap.size + 2 := by rw [← hW0]; simp
  have hbw : Below w.heap.size w W0 := by rw [← hW0]; exact ((Below.refl _ _).alloc (Nat.le_refl _) _).alloc (by simp) _
  have HW0 := Lib.hid hW0
  have HB1 := Lib.hid b1
  have HB2 := Lib.hid b2
  have HS0 := Lib.hid hs0
  have HBW := Lib.hid hbw
  clear hW0 b1 b2 hs0 hbw
  go_enter Try.func58, Try.ntmps58
  go_wp2_with fail
  rw [HW0.out]
  refine (clone64 _ (fun _ => 0) 1 _ _ _ _ (csL fr nr) (Nat.le_refl _) (HR.out.below HBW.out) hrn hnr).mono ?_
  rintro e w1 ⟨ar, cr', c1, rfl, hoR, hsR⟩
  have hbe := stp_below hsR
  have HoR := Lib.hid hoR
  have b1 := HB1.out.below hbe HB1.out.lt
  have b2 := HB2.out.below hbe HB2.out.lt
  have HE1 := Lib.hid hbe
  clear hoR hsR hbe HB1 HB2
  obtain ⟨g0, g1, g2, g3, g4, g5, gf⟩ := b1.cells
  have e0 := gf 0
  have HB1 := Lib.hid b1
  have HB2 := Lib.hid b2
  clear b1 b2 gf
  by_cases hm : nc ≤ 11
  · have hm2 : (nc : Int) ≤ 11 := by omega
    obtain ⟨W1, hW1⟩ : ∃ W1, (w1.setCell ⟨w.heap.size, 0, none⟩ (.slice ar nr cr')) = W1 := ⟨_, rfl⟩
    have b1 := HB1.out.set0 (.slice ar nr cr')
    have b2 := HB2.out.far (p := ⟨w.heap.size, 0, none⟩) (by simp) (.slice ar nr cr')
    have hs1 : W1.heap.size = w1.heap.size := by rw [← hW1]; simp
    have hbw1 : Below w.heap.size w W1 := by rw [← hW1]; exact (HBW.out.trans (HE1.out.mono HBW.out.size)).setCell (Nat.le_refl _) _
    have hkeep1 : ∀ k, k ≠ w.heap.size → W1.heap[k]? = w1.heap[k]? := fun k hk => by rw [← hW1]; exact Below.heap_setCell _ _ _ _ hk
    rw [hW1] at b1 b2
    clear HB1 HB2
    have HW1 := Lib.hid hW1
    clear hW1
    have HC1 := Lib.hid (HC.out.below hbw1)
    have HO1 := Lib.hid (HO.out.below hbw1)
    have HB1 := Lib.hid b1
    have HB2 := Lib.hid b2
    have HS1 := Lib.hid hs1
    have HBW1 := Lib.hid hbw1
    have HL1 := Lib.hid (show w.heap.size < w1.heap.size by have := b1.lt; omega)
    have HL2 := Lib.hid (show w.heap.size + 1 < w1.heap.size by have := b2.lt; omega)
    have HK1 := Lib.hid hkeep1
    clear b1 b2 hs1 hbw1 hkeep1
    go_wp2_with (first | (at_make; go_must (refine wpList_make_zeros _ rfl (.tmp 11) (.tmp 11) 27 rfl 3 i0 Try.underlying27 Hi.out Hz0.out Hz1.out Hz2.out 11 11 rfl rfl rfl (by omega) ?_; intro w4 HR4 HG4; rw [HW1.out] at HR4 HG4; rw [HS1.out] at HR4; have HE4 := Lib.hid ((Below.refl W1.heap.size W1).grown HG4.out (Nat.le_refl _) (by simp)); clear g0 g1 g2 g3 g4 g5 HG4 e0; rw [HS1.out] at HE4; obtain ⟨g0, g1, g2, g3, g4, g5, gf⟩ := (HB1.out.below HE4.out HL1.out).cells; clear gf)) | (with_reducible refine wpList_copy_splice rfl (.tmp 13) (.tmp 15) 27 27 rfl 3 Try.underlying27 Try.sizeI (some ⟨w1.heap.size, 0, none⟩) Ac 11 11 nc cc rfl rfl w1.heap.size 0 (zs0 11) 3 HR4.out (csL fc nc) (by rw [csL_len]; exact (Nat.min_eq_left (by omega)).symm) (fun hp => ⟨rfl, ints_src (HC1.out.below (by rw [HS1.out]; exact HE4.out)) hp⟩) (by rw [csL_len]; simp [zs0]; try omega) (csL_one _ _) w1.heap.size W1 HE4.out (Nat.le_refl _) ?_; intro w5 HR5 hb5; have HROW := Lib.hid (row_splice HR5.out (show nc ≤ 11 by omega)); have HE5 := Lib.hid hb5; clear hb5 HR5 HR4 g0 g1 g2 g3 g4 g5 HE4; obtain ⟨g0, g1, g2, g3, g4, g5, gf⟩ := (HB1.out.below HE5.out HL1.out).cells; have e2 := gf 2; clear gf))
    clear g0 g1 g2 g3 g4 g5 e2
    obtain ⟨W2, hW2⟩ : ∃ W2, (w5.setCell ⟨w.heap.size, 2, none⟩ (.slice (some ⟨w1.heap.size, 0, none⟩) 11 11)) = W2 := ⟨_, rfl⟩
    rw [hW2]
    have b1 := (HB1.out.below HE5.out HL1.out).set2 (.slice (some ⟨w1.heap.size, 0, none⟩) 11 11)
    have b2 := (HB2.out.below HE5.out HL2.out).far (p := ⟨w.heap.size, 2, none⟩) (by simp) (.slice (some ⟨w1.heap.size, 0, none⟩) 11 11)
    have hg1 : w.heap.size + 2 ≤ w1.heap.size := by
      have h2 := HE1.out.size
      have h3 := HS0.out
      omega
    have hrow := HROW.out.far (p := ⟨w.heap.size, 2, none⟩) (by show w1.heap.size ≠ w.heap.size; omega) (.slice (some ⟨w1.heap.size, 0, none⟩) 11 11)
    have hs2 : W2.heap.size = w5.heap.size := by rw [← hW2]; simp
    have hbw2 : Below w.heap.size w W2 := by rw [← hW2]; exact (HBW1.out.trans (HE5.out.mono (Nat.le_of_lt HL1.out))).setCell (Nat.le_refl _) _
    have hkeep2 : ∀ k, k ≠ w.heap.size → W2.heap[k]? = w5.heap[k]? := fun k hk => by rw [← hW2]; exact Below.heap_setCell _ _ _ _ hk
    rw [hW2] at b1 b2 hrow
    clear HB1 HB2 hW2 HROW
    have HB1 := Lib.hid b1
    have HB2 := Lib.hid b2
    have HROW := Lib.hid hrow
    have HS2 := Lib.hid hs2
    have HBW2 := Lib.hid hbw2
    have HK2 := Lib.hid hkeep2
    clear b1 b2 hs2 hbw2 hkeep2 hrow
    refine (clone8 _ (fun _ => 0) 3 _ _ _ _ (bys bo) (Nat.le_refl _) (HO.out.below HBW2.out) hon hno).mono ?_
    rintro e w6 ⟨ao, co', c6, rfl, hoO, hsO⟩
    have HE6 := Lib.hid (stp_below hsO)
    have HoO := Lib.hid hoO
    clear hoO hsO
    obtain ⟨g0, g1, g2, g3, g4, g5, gf⟩ := (HB1.out.below HE6.out HB1.out.lt).cells
    obtain ⟨q0, q1, q2, q3, q4, q5, qf⟩ := (HB2.out.below HE6.out HB2.out.lt).cells
    have e5 := gf 5
    have d0 := qf 0
    have d1 := qf 1
    have d2 := qf 2
    have d3 := qf 3
    have d4 := qf 4
    have d5 := qf 5
    clear gf qf
    go_wp2_with fail
    obtain ⟨W3, hW3⟩ : ∃ W3, (w6.setCell ⟨w.heap.size, 5, none⟩ (.slice ao no co')) = W3 := ⟨_, rfl⟩
    rw [hW3]
    obtain ⟨W4, hW4⟩ : ∃ W4, ((((((W3.setCell ⟨w.heap.size + 1, 0, none⟩ (.slice ar nr cr')).setCell ⟨w.heap.size + 1, 1, none⟩ (.int .i64 pc)).setCell ⟨w.heap.size + 1, 2, none⟩ (.slice (some ⟨w1.heap.size, 0, none⟩) 11 11)).setCell ⟨w.heap.size + 1, 3, none⟩ (.bool hl)).setCell ⟨w.heap.size + 1, 4, none⟩ (.bool st)).setCell ⟨w.heap.size + 1, 5, none⟩ (.slice ao no co')) = W4 := ⟨_, rfl⟩
    rw [hW4]
    have b2 := (HB2.out.below HE6.out HB2.out.lt).far (p := ⟨w.heap.size, 5, none⟩) (by simp) (.slice ao no co')
    rw [hW3] at b2
    obtain ⟨b4, k4, s4, l4⟩ := st6 b2 hW4
    obtain ⟨r0, r1, r2, r3, r4, r5, _⟩ := b4.cells
    have hk3 : ∀ k, k ≠ w.heap.size → W3.heap[k]? = w6.heap[k]? := fun k hk => by rw [← hW3]; exact Below.heap_setCell _ _ _ _ hk
    have hs3 : W3.heap.size = w6.heap.size := by rw [← hW3]; simp
    have hbw3 : Below w.heap.size w W3 := by rw [← hW3]; exact (HBW2.out.trans (HE6.out.mono HBW2.out.size)).setCell (Nat.le_refl _) _
    have z6 := HE6.out.size
    have z5 := HE5.out.size
    have z2 := HS2.out
    have hM : max 11 nc = 11 := by omega
    refine bodyPost_ret (v := .agg #[.slice ar nr cr', .int .i64 pc, .slice (some ⟨w1.heap.size, 0, none⟩) 11 11, .bool hl, .bool st, .slice ao no co']) (by simp [results, Try.results58, go_sem, r0, r1, r2, r3, r4, r5]) rfl ?_
    rw [hM]
    have z1 := HS1.out
    have z0 := HS0.out
    refine ⟨cG w1.heap.size, ar, cr', _, _, ao, co', rfl, ?_, ?_, ?_, hbw3.trans (l4 _ (by omega))⟩
    · refine (HoR.out.keep (w' := W4) (c' := cG w1.heap.size) (d' := 1) (by omega) fun k hB hk _ => ⟨?_, ?_⟩).base (by omega)
      · unfold cG; rw [if_pos (by omega)]
      · rw [k4 k (by omega), hk3 k (by omega), HE6.out.block k (by omega), HK2.out k (by omega), HE5.out.block k (by omega), HK1.out k (by omega)]
    · have hrow : RowIs W4 w1.heap.size 3 11 (exC fc nc) := by
        have h5 := HROW.out.lt
        unfold RowIs
        rw [k4 _ (by omega), hk3 _ (by omega), HE6.out.block _ (by omega)]
        exact HROW.out
      exact row_own hrow (by omega) (by unfold cG; rw [if_neg (by omega), if_pos rfl]) (by omega)
    · refine (HoO.out.keep (w' := W4) (c' := cG w1.heap.size) (d' := 3) (by omega) fun k hB hk _ => ⟨?_, ?_⟩).base (by omega)
      · have h5 := HROW.out.lt
        unfold cG; rw [if_neg (by omega), if_neg (by omega)]
      · have h5 := HROW.out.lt
        rw [k4 k (by omega), hk3 k (by omega)]
  · have hm2 : (11 : Int) ≤ nc := by omega
    have hm3 : ¬ ((nc : Int) ≤ 11) := by omega
    obtain ⟨W1, hW1⟩ : ∃ W1, (w1.setCell ⟨w.heap.size, 0, none⟩ (.slice ar nr cr')) = W1 := ⟨_, rfl⟩
    have b1 := HB1.out.set0 (.slice ar nr cr')
    have b2 := HB2.out.far (p := ⟨w.heap.size, 0, none⟩) (by simp) (.slice ar nr cr')
    have hs1 : W1.heap.size = w1.heap.size := by rw [← hW1]; simp
    have hbw1 : Below w.heap.size w W1 := by rw [← hW1]; exact (HBW.out.trans (HE1.out.mono HBW.out.size)).setCell (Nat.le_refl _) _
    have hkeep1 : ∀ k, k ≠ w.heap.size → W1.heap[k]? = w1.heap[k]? := fun k hk => by rw [← hW1]; exact Below.heap_setCell _ _ _ _ hk
    rw [hW1] at b1 b2
    clear HB1 HB2
    have HW1 := Lib.hid hW1
    clear hW1
    have HC1 := Lib.hid (HC.out.below hbw1)
    have HO1 := Lib.hid (HO.out.below hbw1)
    have HB1 := Lib.hid b1
    have HB2 := Lib.hid b2
    have HS1 := Lib.hid hs1
    have HBW1 := Lib.hid hbw1
    have HL1 := Lib.hid (show w.heap.size < w1.heap.size by have := b1.lt; omega)
    have HL2 := Lib.hid (show w.heap.size + 1 < w1.heap.size by have := b2.lt; omega)
    have HK1 := Lib.hid hkeep1
    clear b1 b2 hs1 hbw1 hkeep1
    go_wp2_with (first | (at_make; go_must (refine wpList_make_zeros _ rfl (.tmp 11) (.tmp 11) 27 rfl 3 i0 Try.underlying27 Hi.out Hz0.out Hz1.out Hz2.out nc (nc : Int) rfl rfl rfl (by omega) ?_; intro w4 HR4 HG4; rw [HW1.out] at HR4 HG4; rw [HS1.out] at HR4; have HE4 := Lib.hid ((Below.refl W1.heap.size W1).grown HG4.out (Nat.le_refl _) (by simp)); clear g0 g1 g2 g3 g4 g5 HG4 e0; rw [HS1.out] at HE4; obtain ⟨g0, g1, g2, g3, g4, g5, gf⟩ := (HB1.out.below HE4.out HL1.out).cells; clear gf)) | (with_reducible refine wpList_copy_splice rfl (.tmp 13) (.tmp 15) 27 27 rfl 3 Try.underlying27 Try.sizeI (some ⟨w1.heap.size, 0, none⟩) Ac nc nc nc cc rfl rfl w1.heap.size 0 (zs0 nc) 3 HR4.out (csL fc nc) (by rw [csL_len]; exact (Nat.min_eq_left (by omega)).symm) (fun hp => ⟨rfl, ints_src (HC1.out.below (by rw [HS1.out]; exact HE4.out)) hp⟩) (by rw [csL_len]; simp [zs0]; try omega) (csL_one _ _) w1.heap.size W1 HE4.out (Nat.le_refl _) ?_; intro w5 HR5 hb5; have HROW := Lib.hid (row_splice HR5.out (show nc ≤ nc by omega)); have HE5 := Lib.hid hb5; clear hb5 HR5 HR4 g0 g1 g2 g3 g4 g5 HE4; obtain ⟨g0, g1, g2, g3, g4, g5, gf⟩ := (HB1.out.below HE5.out HL1.out).cells; have e2 := gf 2; clear gf))
    clear g0 g1 g2 g3 g4 g5 e2
    obtain ⟨W2, hW2⟩ : ∃ W2, (w5.setCell ⟨w.heap.size, 2, none⟩ (.slice (some ⟨w1.heap.size, 0, none⟩) nc nc)) = W2 := ⟨_, rfl⟩
    rw [hW2]
    have b1 := (HB1.out.below HE5.out HL1.out).set2 (.slice (some ⟨w1.heap.size, 0, none⟩) nc nc)
    have b2 := (HB2.out.below HE5.out HL2.out).far (p := ⟨w.heap.size, 2, none⟩) (by simp) (.slice (some ⟨w1.heap.size, 0, none⟩) nc nc)
    have hg1 : w.heap.size + 2 ≤ w1.heap.size := by
      have h2 := HE1.out.size
      have h3 := HS0.out
      omega
    have hrow := HROW.out.far (p := ⟨w.heap.size, 2, none⟩) (by show w1.heap.size ≠ w.heap.size; omega) (.slice (some ⟨w1.heap.size, 0, none⟩) nc nc)
    have hs2 : W2.heap.size = w5.heap.size := by rw [← hW2]; simp
    have hbw2 : Below w.heap.size w W2 := by rw [← hW2]; exact (HBW1.out.trans (HE5.out.mono (Nat.le_of_lt HL1.out))).setCell (Nat.le_refl _) _
    have hkeep2 : ∀ k, k ≠ w.heap.size → W2.heap[k]? = w5.heap[k]? := fun k hk => by rw [← hW2]; exact Below.heap_setCell _ _ _ _ hk
    rw [hW2] at b1 b2 hrow
    clear HB1 HB2 hW2 HROW
    have HB1 := Lib.hid b1
    have HB2 := Lib.hid b2
    have HROW := Lib.hid hrow
    have HS2 := Lib.hid hs2
    have HBW2 := Lib.hid hbw2
    have HK2 := Lib.hid hkeep2
    clear b1 b2 hs2 hbw2 hkeep2 hrow
    refine (clone8 _ (fun _ => 0) 3 _ _ _ _ (bys bo) (Nat.le_refl _) (HO.out.below HBW2.out) hon hno).mono ?_
    rintro e w6 ⟨ao, co', c6, rfl, hoO, hsO⟩
    have HE6 := Lib.hid (stp_below hsO)
    have HoO := Lib.hid hoO
    clear hoO hsO
    obtain ⟨g0, g1, g2, g3, g4, g5, gf⟩ := (HB1.out.below HE6.out HB1.out.lt).cells
    obtain ⟨q0, q1, q2, q3, q4, q5, qf⟩ := (HB2.out.below HE6.out HB2.out.lt).cells
    have e5 := gf 5
    have d0 := qf 0
    have d1 := qf 1
    have d2 := qf 2
    have d3 := qf 3
    have d4 := qf 4
    have d5 := qf 5
    clear gf qf
    go_wp2_with fail
    obtain ⟨W3, hW3⟩ : ∃ W3, (w6.setCell ⟨w.heap.size, 5, none⟩ (.slice ao no co')) = W3 := ⟨_, rfl⟩
    rw [hW3]
    obtain ⟨W4, hW4⟩ : ∃ W4, ((((((W3.setCell ⟨w.heap.size + 1, 0, none⟩ (.slice ar nr cr')).setCell ⟨w.heap.size + 1, 1, none⟩ (.int .i64 pc)).setCell ⟨w.heap.size + 1, 2, none⟩ (.slice (some ⟨w1.heap.size, 0, none⟩) nc nc)).setCell ⟨w.heap.size + 1, 3, none⟩ (.bool hl)).setCell ⟨w.heap.size + 1, 4, none⟩ (.bool st)).setCell ⟨w.heap.size + 1, 5, none⟩ (.slice ao no co')) = W4 := ⟨_, rfl⟩
    rw [hW4]
    have b2 := (HB2.out.below HE6.out HB2.out.lt).far (p := ⟨w.heap.size, 5, none⟩) (by simp) (.slice ao no co')
    rw [hW3] at b2
    obtain ⟨b4, k4, s4, l4⟩ := st6 b2 hW4
    obtain ⟨r0, r1, r2, r3, r4, r5, _⟩ := b4.cells
    have hk3 : ∀ k, k ≠ w.heap.size → W3.heap[k]? = w6.heap[k]? := fun k hk => by rw [← hW3]; exact Below.heap_setCell _ _ _ _ hk
    have hs3 : W3.heap.size = w6.heap.size := by rw [← hW3]; simp
    have hbw3 : Below w.heap.size w W3 := by rw [← hW3]; exact (HBW2.out.trans (HE6.out.mono HBW2.out.size)).setCell (Nat.le_refl _) _
    have z6 := HE6.out.size
    have z5 := HE5.out.size
    have z2 := HS2.out
    have hM : max 11 nc = nc := by omega
    refine bodyPost_ret (v := .agg #[.slice ar nr cr', .int .i64 pc, .slice (some ⟨w1.heap.size, 0, none⟩) nc nc, .bool hl, .bool st, .slice ao no co']) (by simp [results, Try.results58, go_sem, r0, r1, r2, r3, r4, r5]) rfl ?_
    rw [hM]
    have z1 := HS1.out
    have z0 := HS0.out
    refine ⟨cG w1.heap.size, ar, cr', _, _, ao, co', rfl, ?_, ?_, ?_, hbw3.trans (l4 _ (by omega))⟩
    · refine (HoR.out.keep (w' := W4) (c' := cG w1.heap.size) (d' := 1) (by omega) fun k hB hk _ => ⟨?_, ?_⟩).base (by omega)
      · unfold cG; rw [if_pos (by omega)]
      · rw [k4 k (by omega), hk3 k (by omega), HE6.out.block k (by omega), HK2.out k (by omega), HE5.out.block k (by omega), HK1.out k (by omega)]
    · have hrow : RowIs W4 w1.heap.size 3 nc (exC fc nc) := by
        have h5 := HROW.out.lt
        unfold RowIs
        rw [k4 _ (by omega), hk3 _ (by omega), HE6.out.block _ (by omega)]
        exact HROW.out
      exact row_own hrow (by omega) (by unfold cG; rw [if_neg (by omega), if_pos rfl]) (by omega)
    · refine (HoO.out.keep (w' := W4) (c' := cG w1.heap.size) (d' := 3) (by omega) fun k hB hk _ => ⟨?_, ?_⟩).base (by omega)
      · have h5 := HROW.out.lt
        unfold cG; rw [if_neg (by omega), if_neg (by omega)]
      · have h5 := HROW.out.lt
        rw [k4 k (by omega), hk3 k (by omega)]
end Go.Proofs.Ytodkenbkogfefaa
