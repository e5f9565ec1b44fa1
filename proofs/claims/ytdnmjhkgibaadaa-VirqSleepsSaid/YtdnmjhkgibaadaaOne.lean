/- The reference's machine at wfi: what it does of itself in a step. -/
import Derived.Test.YtdnmjhkgibaadaaMac
namespace Go.Proofs.Ytdnmjhkgibaadaa
open Go.RowKit
attribute [local go_sem ↓] Go.wp_at_zero Go.wp_at_succ

theorem mp_drewN {w : World} {bm pm pb : Nat} {pc st tm cp pd ie : Int} (h : MP w bm pm pb pc st tm cp pd ie) (n : Nat) : MP (w.drewN n) bm pm pb pc st tm cp pd ie := h
/-- What a call that hands back nothing leaves of the machine. -/
def OneP (w : World) (B bm pm pb : Nat) (pc st tm cp pd ie : Int) (e : Ending) (w' : World) : Prop := e = .returned (.tuple #[]) ∧ MP w' bm pm pb pc st tm cp pd ie ∧ Below B w w'
set_option maxRecDepth 100000 in
set_option maxHeartbeats 8000000 in
theorem one_sleep (w : World) (B : Nat) (bm pm pb : Nat) (st tm cp pd ie : Int) (h : MP w bm pm pb 0 st tm cp pd ie) (hB : B ≤ bm) (hBw : B ≤ w.heap.size) (hst : (bits .and .i64 st 4 == 0) = false) (htk : tkB st (bits .and .i64 pd ie) = false) (hz : (bits .and .i64 pd ie == 0) = true) :
    Calls Try.prog 26 #[.pointer (some ⟨bm, 0, none⟩)] w (OneP w B bm pm pb 0 st tm cp pd ie) := by
  have H := Lib.hid h
  obtain ⟨⟨h0, h16, h17, h18, h23, h24, h25, h26, h27, h28, h29, h31, h32, h33, h34, h35⟩, fz, hlt, _⟩ := h.cells
  have hW4 : W 4 = 4 := by decide
  have HZ := Lib.hid hz
  clear h fz hz
  go_enter Try.func26, Try.ntmps26
  go_wp2_with fail
  go_quiet ((go_at_call 35; exact quiet_left (refTakes_any _ _ _ _)))
  clear h0 h16 h17 h18 h23 h24 h25 h26 h27 h28 h29 h31 h32 h33 h34 h35 hlt
  obtain ⟨w1, ew1⟩ : ∃ w1, w.drewN nq = w1 := ⟨_, rfl⟩
  have H1 : Hid (MP w1 bm pm pb 0 st tm cp pd ie) := Lib.hid (by rw [← ew1]; exact mp_drewN H.out nq)
  have Hb1 : Hid (Below B w w1) := Lib.hid (by rw [← ew1]; exact below_drewN' (Below.refl _ _) nq)
  rw [ew1]
  clear ew1 H
  obtain ⟨⟨h0, h16, h17, h18, h23, h24, h25, h26, h27, h28, h29, h31, h32, h33, h34, h35⟩, fz, hlt, hmem, _⟩ := H1.out.cells
  have HM1 := Lib.hid hmem
  clear fz hmem
  go_wp2_with fail
  clear htk
  go_quiet ((go_at_call 37; exact quiet_left (walk0 _ _)))
  clear h0 h16 h17 h18 h23 h24 h25 h26 h27 h28 h29 h31 h32 h33 h34 h35 hlt
  obtain ⟨w2, ew2⟩ : ∃ w2, w1.drewN nq = w2 := ⟨_, rfl⟩
  have H2 : Hid (MP w2 bm pm pb 0 st tm cp pd ie) := Lib.hid (by rw [← ew2]; exact mp_drewN H1.out nq)
  have Hb2 : Hid (Below B w w2) := Lib.hid (by rw [← ew2]; exact below_drewN' Hb1.out nq)
  rw [ew2]
  clear ew2 H1 Hb1 HM1
  obtain ⟨⟨h0, h16, h17, h18, h23, h24, h25, h26, h27, h28, h29, h31, h32, h33, h34, h35⟩, fz, hlt, hmem, _⟩ := H2.out.cells
  have HM := Lib.hid hmem
  clear fz hmem
  go_wp2_with fail
  refine (mload66 _ pm pb HM.out).mono ?_
  rintro e w3 ⟨rfl, rfl⟩
  go_wp2_with fail
  refine (decode66 _).mono ?_
  rintro e w4 ⟨rfl, hb4⟩
  clear h0 h16 h17 h18 h23 h24 h25 h26 h27 h28 h29 h31 h32 h33 h34 h35 hlt
  have H4 := Lib.hid (H2.out.below hb4)
  have Hb4 := Lib.hid (Hb2.out.trans (hb4.mono (Nat.le_trans hBw Hb2.out.size)))
  clear hb4 H2 Hb2 HM
  obtain ⟨W5, hW5⟩ : ∃ W5, (w4.alloc (.cells #[.int .i64 66, .int .i64 0, .int .i64 0, .int .i64 0, .int .i64 0] 74)) = W5 := ⟨_, rfl⟩
  have hb5 : Below w4.heap.size w4 W5 := by rw [← hW5]; exact (Below.refl _ _).alloc (Nat.le_refl _) _
  have H5 := Lib.hid (H4.out.below hb5)
  have Hb5 := Lib.hid (Hb4.out.trans (hb5.mono (Nat.le_trans hBw Hb4.out.size)))
  have j0 : W5.cell? ⟨w4.heap.size, 0, none⟩ = some (.int .i64 66) := by rw [← hW5]; simp
  have j1 : W5.cell? ⟨w4.heap.size, 1, none⟩ = some (.int .i64 0) := by rw [← hW5]; simp
  have j2 : W5.cell? ⟨w4.heap.size, 2, none⟩ = some (.int .i64 0) := by rw [← hW5]; simp
  have j4 : W5.cell? ⟨w4.heap.size, 4, none⟩ = some (.int .i64 0) := by rw [← hW5]; simp
  have HW5 := Lib.hid hW5
  obtain ⟨ib, hib⟩ : ∃ ib, w4.heap.size = ib := ⟨_, rfl⟩
  rw [hib] at j0 j1 j2 j4
  have HIB := Lib.hid hib
  clear hb5 hW5 hib H4 Hb4
  go_upto_region 14 with fail
  rw [HW5.out, HIB.out]
  obtain ⟨⟨h0, h16, h17, h18, h23, h24, h25, h26, h27, h28, h29, h31, h32, h33, h34, h35⟩, fz, hlt, _⟩ := H5.out.cells
  clear fz
  go_wp2_with fail
  go_quiet (fail)
  obtain ⟨w6, ew6⟩ : ∃ w6, W5.drewN nq = w6 := ⟨_, rfl⟩
  have J : Hid ((w6.cell? ⟨ib, 0, none⟩ = some (.int .i64 66) ∧ w6.cell? ⟨ib, 1, none⟩ = some (.int .i64 0) ∧ w6.cell? ⟨ib, 2, none⟩ = some (.int .i64 0) ∧ w6.cell? ⟨ib, 4, none⟩ = some (.int .i64 0))) := Lib.hid (by rw [← ew6]; exact ⟨j0, j1, j2, j4⟩)
  have H6 : Hid (MP w6 bm pm pb 0 st tm cp pd ie) := Lib.hid (by rw [← ew6]; exact mp_drewN H5.out nq)
  have Hb6 : Hid (Below B w w6) := Lib.hid (by rw [← ew6]; exact below_drewN' Hb5.out nq)
  clear h0 h16 h17 h18 h23 h24 h25 h26 h27 h28 h29 h31 h32 h33 h34 h35 hlt j0 j1 j2 j4
  rw [ew6]
  clear ew6 H5 Hb5 HW5
  obtain ⟨j0, j1, j2, j4⟩ := J.out
  obtain ⟨⟨h0, h16, h17, h18, h23, h24, h25, h26, h27, h28, h29, h31, h32, h33, h34, h35⟩, fz, hlt, _⟩ := H6.out.cells
  clear fz
  go_wp2_with (first | (go_at_call 40; refine (form66 _).mono ?_; rintro e w' ⟨⟨s, rfl⟩, rfl⟩) | (go_at_call 19; refine (refW_any _ _).mono ?_; rintro e w' ⟨rfl, rfl⟩) | (go_at_call 41; refine (alu66 _ _ _).mono ?_; rintro e w' ⟨rfl, rfl⟩) | (go_at_call 42; refine (access66 _).mono ?_; rintro e w' ⟨rfl, rfl⟩))
  go_quiet ((go_at_call 43; exact quiet_left (taken66 _ _ _)))
  obtain ⟨w7, ew7⟩ : ∃ w7, w6.drewN nq = w7 := ⟨_, rfl⟩
  have J7 : Hid (w7.cell? ⟨ib, 0, none⟩ = some (.int .i64 66)) := Lib.hid (by rw [← ew7]; exact j0)
  have H7 : Hid (MP w7 bm pm pb 0 st tm cp pd ie) := Lib.hid (by rw [← ew7]; exact mp_drewN H6.out nq)
  have Hb7 : Hid (Below B w w7) := Lib.hid (by rw [← ew7]; exact below_drewN' Hb6.out nq)
  clear h0 h16 h17 h18 h23 h24 h25 h26 h27 h28 h29 h31 h32 h33 h34 h35 hlt j0 j1 j2 j4 J
  rw [ew7]
  clear ew7 H6 Hb6
  have j0 := J7.out
  obtain ⟨⟨h0, h16, h17, h18, h23, h24, h25, h26, h27, h28, h29, h31, h32, h33, h34, h35⟩, fz, hlt, _⟩ := H7.out.cells
  clear fz
  go_wp2_with fail
  have hz := HZ.out
  go_quiet (fail)
  obtain ⟨w8, ew8⟩ : ∃ w8, w7.drewN nq = w8 := ⟨_, rfl⟩
  have H8 : Hid (MP w8 bm pm pb 0 st tm cp pd ie) := Lib.hid (by rw [← ew8]; exact mp_drewN H7.out nq)
  have Hb8 : Hid (Below B w w8) := Lib.hid (by rw [← ew8]; exact below_drewN' Hb7.out nq)
  clear h0 h16 h17 h18 h23 h24 h25 h26 h27 h28 h29 h31 h32 h33 h34 h35 hlt j0 J7
  rw [ew8]
  clear ew8 H7 Hb7
  obtain ⟨⟨h0, h16, h17, h18, h23, h24, h25, h26, h27, h28, h29, h31, h32, h33, h34, h35⟩, fz, hlt, _⟩ := H8.out.cells
  have f16 := fz 16
  clear fz
  go_wp2_with fail
  (first | go_end0 | (simp only [Exit.inBlock, Exit.then]; refine bodyPost_ret (results_none rfl _ _ _) rfl ?_) | refine bodyPost_ret (results_none rfl _ _ _) rfl ?_)
  exact ⟨rfl, H8.out.setPc 0, Hb8.out.setCell (p := ⟨bm, 16, none⟩) hB _⟩
set_option maxRecDepth 100000 in
set_option maxHeartbeats 8000000 in
theorem one_wake4 (w : World) (B : Nat) (bm pm pb : Nat) (st tm cp pd ie : Int) (h : MP w bm pm pb 0 st tm cp pd ie) (hB : B ≤ bm) (hBw : B ≤ w.heap.size) (hst : (bits .and .i64 st 4 == 0) = false) (htk : tkB st (bits .and .i64 pd ie) = false) (hz : (bits .and .i64 pd ie == 0) = false) :
    Calls Try.prog 26 #[.pointer (some ⟨bm, 0, none⟩)] w (OneP w B bm pm pb 4 st tm cp pd ie) := by
  have H := Lib.hid h
  obtain ⟨⟨h0, h16, h17, h18, h23, h24, h25, h26, h27, h28, h29, h31, h32, h33, h34, h35⟩, fz, hlt, _⟩ := h.cells
  have hW4 : W 4 = 4 := by decide
  have HZ := Lib.hid hz
  clear h fz hz
  go_enter Try.func26, Try.ntmps26
  go_wp2_with fail
  go_quiet ((go_at_call 35; exact quiet_left (refTakes_any _ _ _ _)))
  clear h0 h16 h17 h18 h23 h24 h25 h26 h27 h28 h29 h31 h32 h33 h34 h35 hlt
  obtain ⟨w1, ew1⟩ : ∃ w1, w.drewN nq = w1 := ⟨_, rfl⟩
  have H1 : Hid (MP w1 bm pm pb 0 st tm cp pd ie) := Lib.hid (by rw [← ew1]; exact mp_drewN H.out nq)
  have Hb1 : Hid (Below B w w1) := Lib.hid (by rw [← ew1]; exact below_drewN' (Below.refl _ _) nq)
  rw [ew1]
  clear ew1 H
  obtain ⟨⟨h0, h16, h17, h18, h23, h24, h25, h26, h27, h28, h29, h31, h32, h33, h34, h35⟩, fz, hlt, hmem, _⟩ := H1.out.cells
  have HM1 := Lib.hid hmem
  clear fz hmem
  go_wp2_with fail
  clear htk
  go_quiet ((go_at_call 37; exact quiet_left (walk0 _ _)))
  clear h0 h16 h17 h18 h23 h24 h25 h26 h27 h28 h29 h31 h32 h33 h34 h35 hlt
  obtain ⟨w2, ew2⟩ : ∃ w2, w1.drewN nq = w2 := ⟨_, rfl⟩
  have H2 : Hid (MP w2 bm pm pb 0 st tm cp pd ie) := Lib.hid (by rw [← ew2]; exact mp_drewN H1.out nq)
  have Hb2 : Hid (Below B w w2) := Lib.hid (by rw [← ew2]; exact below_drewN' Hb1.out nq)
  rw [ew2]
  clear ew2 H1 Hb1 HM1
  obtain ⟨⟨h0, h16, h17, h18, h23, h24, h25, h26, h27, h28, h29, h31, h32, h33, h34, h35⟩, fz, hlt, hmem, _⟩ := H2.out.cells
  have HM := Lib.hid hmem
  clear fz hmem
  go_wp2_with fail
  refine (mload66 _ pm pb HM.out).mono ?_
  rintro e w3 ⟨rfl, rfl⟩
  go_wp2_with fail
  refine (decode66 _).mono ?_
  rintro e w4 ⟨rfl, hb4⟩
  clear h0 h16 h17 h18 h23 h24 h25 h26 h27 h28 h29 h31 h32 h33 h34 h35 hlt
  have H4 := Lib.hid (H2.out.below hb4)
  have Hb4 := Lib.hid (Hb2.out.trans (hb4.mono (Nat.le_trans hBw Hb2.out.size)))
  clear hb4 H2 Hb2 HM
  obtain ⟨W5, hW5⟩ : ∃ W5, (w4.alloc (.cells #[.int .i64 66, .int .i64 0, .int .i64 0, .int .i64 0, .int .i64 0] 74)) = W5 := ⟨_, rfl⟩
  have hb5 : Below w4.heap.size w4 W5 := by rw [← hW5]; exact (Below.refl _ _).alloc (Nat.le_refl _) _
  have H5 := Lib.hid (H4.out.below hb5)
  have Hb5 := Lib.hid (Hb4.out.trans (hb5.mono (Nat.le_trans hBw Hb4.out.size)))
  have j0 : W5.cell? ⟨w4.heap.size, 0, none⟩ = some (.int .i64 66) := by rw [← hW5]; simp
  have j1 : W5.cell? ⟨w4.heap.size, 1, none⟩ = some (.int .i64 0) := by rw [← hW5]; simp
  have j2 : W5.cell? ⟨w4.heap.size, 2, none⟩ = some (.int .i64 0) := by rw [← hW5]; simp
  have j4 : W5.cell? ⟨w4.heap.size, 4, none⟩ = some (.int .i64 0) := by rw [← hW5]; simp
  have HW5 := Lib.hid hW5
  obtain ⟨ib, hib⟩ : ∃ ib, w4.heap.size = ib := ⟨_, rfl⟩
  rw [hib] at j0 j1 j2 j4
  have HIB := Lib.hid hib
  clear hb5 hW5 hib H4 Hb4
  go_upto_region 14 with fail
  rw [HW5.out, HIB.out]
  obtain ⟨⟨h0, h16, h17, h18, h23, h24, h25, h26, h27, h28, h29, h31, h32, h33, h34, h35⟩, fz, hlt, _⟩ := H5.out.cells
  clear fz
  go_wp2_with fail
  go_quiet (fail)
  obtain ⟨w6, ew6⟩ : ∃ w6, W5.drewN nq = w6 := ⟨_, rfl⟩
  have J : Hid ((w6.cell? ⟨ib, 0, none⟩ = some (.int .i64 66) ∧ w6.cell? ⟨ib, 1, none⟩ = some (.int .i64 0) ∧ w6.cell? ⟨ib, 2, none⟩ = some (.int .i64 0) ∧ w6.cell? ⟨ib, 4, none⟩ = some (.int .i64 0))) := Lib.hid (by rw [← ew6]; exact ⟨j0, j1, j2, j4⟩)
  have H6 : Hid (MP w6 bm pm pb 0 st tm cp pd ie) := Lib.hid (by rw [← ew6]; exact mp_drewN H5.out nq)
  have Hb6 : Hid (Below B w w6) := Lib.hid (by rw [← ew6]; exact below_drewN' Hb5.out nq)
  clear h0 h16 h17 h18 h23 h24 h25 h26 h27 h28 h29 h31 h32 h33 h34 h35 hlt j0 j1 j2 j4
  rw [ew6]
  clear ew6 H5 Hb5 HW5
  obtain ⟨j0, j1, j2, j4⟩ := J.out
  obtain ⟨⟨h0, h16, h17, h18, h23, h24, h25, h26, h27, h28, h29, h31, h32, h33, h34, h35⟩, fz, hlt, _⟩ := H6.out.cells
  clear fz
  go_wp2_with (first | (go_at_call 40; refine (form66 _).mono ?_; rintro e w' ⟨⟨s, rfl⟩, rfl⟩) | (go_at_call 19; refine (refW_any _ _).mono ?_; rintro e w' ⟨rfl, rfl⟩) | (go_at_call 41; refine (alu66 _ _ _).mono ?_; rintro e w' ⟨rfl, rfl⟩) | (go_at_call 42; refine (access66 _).mono ?_; rintro e w' ⟨rfl, rfl⟩))
  go_quiet ((go_at_call 43; exact quiet_left (taken66 _ _ _)))
  obtain ⟨w7, ew7⟩ : ∃ w7, w6.drewN nq = w7 := ⟨_, rfl⟩
  have J7 : Hid (w7.cell? ⟨ib, 0, none⟩ = some (.int .i64 66)) := Lib.hid (by rw [← ew7]; exact j0)
  have H7 : Hid (MP w7 bm pm pb 0 st tm cp pd ie) := Lib.hid (by rw [← ew7]; exact mp_drewN H6.out nq)
  have Hb7 : Hid (Below B w w7) := Lib.hid (by rw [← ew7]; exact below_drewN' Hb6.out nq)
  clear h0 h16 h17 h18 h23 h24 h25 h26 h27 h28 h29 h31 h32 h33 h34 h35 hlt j0 j1 j2 j4 J
  rw [ew7]
  clear ew7 H6 Hb6
  have j0 := J7.out
  obtain ⟨⟨h0, h16, h17, h18, h23, h24, h25, h26, h27, h28, h29, h31, h32, h33, h34, h35⟩, fz, hlt, _⟩ := H7.out.cells
  clear fz
  go_wp2_with fail
  have hz := HZ.out
  go_quiet (fail)
  obtain ⟨w8, ew8⟩ : ∃ w8, w7.drewN nq = w8 := ⟨_, rfl⟩
  have H8 : Hid (MP w8 bm pm pb 0 st tm cp pd ie) := Lib.hid (by rw [← ew8]; exact mp_drewN H7.out nq)
  have Hb8 : Hid (Below B w w8) := Lib.hid (by rw [← ew8]; exact below_drewN' Hb7.out nq)
  clear h0 h16 h17 h18 h23 h24 h25 h26 h27 h28 h29 h31 h32 h33 h34 h35 hlt j0 J7
  rw [ew8]
  clear ew8 H7 Hb7
  obtain ⟨⟨h0, h16, h17, h18, h23, h24, h25, h26, h27, h28, h29, h31, h32, h33, h34, h35⟩, fz, hlt, _⟩ := H8.out.cells
  have f16 := fz 16
  clear fz
  go_wp2_with fail
  (first | go_end0 | (simp only [Exit.inBlock, Exit.then]; refine bodyPost_ret (results_none rfl _ _ _) rfl ?_) | refine bodyPost_ret (results_none rfl _ _ _) rfl ?_)
  exact ⟨rfl, H8.out.setPc 4, Hb8.out.setCell (p := ⟨bm, 16, none⟩) hB _⟩
end Go.Proofs.Ytdnmjhkgibaadaa
