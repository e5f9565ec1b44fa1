/- The reference's machine at wfi: a trap of the timer, and a step. -/
import Derived.Test.YtdnmjhkgibaadaaOne
import Derived.Deep.RegionWith
import Derived.BigRegion
namespace Go.Proofs.Ytdnmjhkgibaadaa
open Go.RowKit
attribute [local go_sem ↓] Go.wp_at_zero Go.wp_at_succ

/-- What a step that sleeps, one that wakes, and a trap leave. -/
def StSl (w : World) (B bm pm pb : Nat) (st tm cp pd ie : Int) (e : Ending) (w' : World) : Prop := e = .returned (.bool true) ∧ MP w' bm pm pb 0 st tm cp pd ie ∧ Below B w w'
def StWk (w : World) (B bm : Nat) (e : Ending) (w' : World) : Prop := e = .returned (.bool true) ∧ (∃ x : Int, (x == 0) = false ∧ w'.cell? ⟨bm, 16, none⟩ = some (.int .i64 x)) ∧ Below B w w'
theorem undrw {w w' : World} (h : Below w.drew.heap.size w.drew w') : Below w.heap.size w w' := ⟨h.os, h.tape, h.output, h.size, h.block⟩
def TrP (w : World) (B bm : Nat) (tm : Int) (e : Ending) (w' : World) : Prop := e = .returned (.tuple #[]) ∧ (∃ g : Nat → Value, Blk w' bm 38 39 g ∧ g 16 = .int .i64 64 ∧ g 24 = .int .i64 tm) ∧ Below B w w'
theorem MP.blk {w : World} {bm pm pb : Nat} {pc st tm cp pd ie : Int} (h : MP w bm pm pb pc st tm cp pd ie) : ∃ g, Blk w bm 38 39 g ∧ g 16 = .int .i64 pc ∧ g 24 = .int .i64 tm := by
  obtain ⟨g, hB, ⟨h0, h16, h17, h18, h23, h24, h25, h26, h27, h28, h29, h31, h32, h33, h34, h35⟩, _⟩ := h
  exact ⟨g, hB, h16, h24⟩
set_option maxRecDepth 100000 in
set_option maxHeartbeats 4000000 in
theorem trap_timer (w : World) (B : Nat) (bm pm pb : Nat) (st tm cp pd ie : Int) (h : MP w bm pm pb 0 st tm cp pd ie) (hB : B ≤ bm) : Calls Try.prog 36 #[.pointer (some ⟨bm, 0, none⟩), .int .i64 2147483648, .int .i64 0] w (TrP w B bm tm) := by
  obtain ⟨⟨h0, h16, h17, h18, h23, h24, h25, h26, h27, h28, h29, h31, h32, h33, h34, h35⟩, fz, hlt, _⟩ := h.cells
  obtain ⟨g, hK, hg16, hg24⟩ := h.blk
  have c19 := hK.cell (k := 19) (by omega)
  have c20 := hK.cell (k := 20) (by omega)
  have c21 := hK.cell (k := 21) (by omega)
  have f16 := fz 16
  have f17 := fz 17
  have f19 := fz 19
  have f20 := fz 20
  have f21 := fz 21
  have HK := Lib.hid hK
  have HG16 := Lib.hid hg16
  have HG24 := Lib.hid hg24
  clear h fz hK hg16 hg24
  go_enter Try.func36, Try.ntmps36
  go_wp2_with fail
  go_quiet (fail)
  go_wp2_with fail
  go_region_with (fail)
  go_wp2_with fail
  go_region_with (first | (go_at_call 19; refine (refW_any _ _).mono ?_; rintro e w' ⟨rfl, rfl⟩))
  go_wp2_with fail
  go_region_with (first | (go_at_call 19; refine (refW_any _ _).mono ?_; rintro e w' ⟨rfl, rfl⟩))
  go_wp2_with fail
  go_region_with (first | (go_at_call 52; refine (refEnter_any _ _).mono ?_; rintro e w' ⟨rfl, rfl⟩))
  go_wp2_with fail
  go_end0
  have hk := ((((HK.out.put 19 (.int .i64 0)).put 20 (.int .i64 (W 2147483648))).put 21 (.int .i64 (W 0))).put 17 (.int .i64 (enterS st))).put 16 (.int .i64 64)
  refine ⟨rfl, ⟨_, hk, rfl, HG24.out⟩, ?_⟩
  exact ((((((below_drewN' (Below.refl B w) (nq + 1)).setCell (p := ⟨bm, 19, none⟩) hB _).setCell (p := ⟨bm, 20, none⟩) hB _).setCell (p := ⟨bm, 21, none⟩) hB _).setCell (p := ⟨bm, 17, none⟩) hB _).setCell (p := ⟨bm, 16, none⟩) hB _).drew.drew.drew
set_option maxRecDepth 100000 in
set_option maxHeartbeats 4000000 in
theorem one_trap (w : World) (B : Nat) (bm pm pb : Nat) (st tm cp pd ie : Int) (h : MP w bm pm pb 0 st tm cp pd ie) (hB : B ≤ bm) (htk : tkB st (bits .and .i64 pd ie) = true) (htv : tk st (bits .and .i64 pd ie) = 2147483648) :
    Calls Try.prog 26 #[.pointer (some ⟨bm, 0, none⟩)] w (TrP w B bm tm) := by
  have H := Lib.hid h
  obtain ⟨⟨h0, h16, h17, h18, h23, h24, h25, h26, h27, h28, h29, h31, h32, h33, h34, h35⟩, fz, hlt, _⟩ := h.cells
  clear h fz
  go_enter Try.func26, Try.ntmps26
  go_wp2_with fail
  go_quiet ((go_at_call 35; exact quiet_left (refTakes_any _ _ _ _)))
  clear h0 h16 h17 h18 h23 h24 h25 h26 h27 h28 h29 h31 h32 h33 h34 h35 hlt
  obtain ⟨w1, ew1⟩ : ∃ w1, w.drewN nq = w1 := ⟨_, rfl⟩
  have H1 : Hid (MP w1 bm pm pb 0 st tm cp pd ie) := Lib.hid (by rw [← ew1]; exact mp_drewN H.out nq)
  have Hb1 : Hid (Below B w w1) := Lib.hid (by rw [← ew1]; exact below_drewN' (Below.refl _ _) nq)
  rw [ew1]
  clear ew1 H
  go_wp2_with fail
  refine (trap_timer _ B bm pm pb st tm cp pd ie H1.out hB).mono ?_
  rintro e w2 ⟨rfl, hk, hb2⟩
  have HN := Lib.hid (Hb1.out.trans hb2)
  have HK := Lib.hid hk
  clear hk hb2
  go_wp2_with fail
  (first | go_end0 | (simp only [Exit.inBlock, Exit.then]; refine bodyPost_ret (results_none rfl _ _ _) rfl ?_) | refine bodyPost_ret (results_none rfl _ _ _) rfl ?_)
  exact ⟨rfl, HK.out, HN.out⟩
set_option maxRecDepth 100000 in
set_option maxHeartbeats 4000000 in
theorem step_sleep (w : World) (B : Nat) (bm pm pb : Nat) (st tm cp pd ie : Int) (h : MP w bm pm pb 0 st tm cp pd ie) (hB : B ≤ bm) (hBw : B ≤ w.heap.size) (ht : 0 ≤ tm ∧ tm ≤ 1000) (hst : (bits .and .i64 st 4 == 0) = false) (htk : tkB st (bits .and .i64 (pendI tm cp 0 0) ie) = false) (hz : (bits .and .i64 (pendI tm cp 0 0) ie == 0) = true) :
    Calls Try.prog 10 #[.pointer (some ⟨bm, 0, none⟩)] w (StSl w B bm pm pb st (tm + 1) cp (pendI tm cp 0 0) ie) := by
  obtain ⟨t0, t1⟩ := ht
  have H := Lib.hid h
  obtain ⟨⟨h0, h16, h17, h18, h23, h24, h25, h26, h27, h28, h29, h31, h32, h33, h34, h35⟩, fz, hlt, _⟩ := h.cells
  have f26 := fz 26
  have HW1 : Hid (W (tm + 1) = tm + 1) := Lib.hid (W_of _ (by omega))
  have HST := Lib.hid hst
  have HTK := Lib.hid htk
  have HZ := Lib.hid hz
  clear hst htk hz
  clear h fz
  go_enter Try.func10, Try.ntmps10
  go_wp2_with fail
  go_region_with (first | (go_at_call 25; go_must (refine (mpend_any _ bm pm pb 0 st tm cp pd ie (by exact mp_drew H.out)).mono ?_; rintro e w1 ⟨rfl, hb1⟩; have H1 := Lib.hid (H.out.below (undrw hb1)); have Hb1 := Lib.hid ((undrw hb1).mono hBw); clear hb1 h0 h16 h17 h18 h23 h24 h25 h26 h27 h28 h29 h31 h32 h33 h34 h35 hlt f26; obtain ⟨⟨h0, h16, h17, h18, h23, h24, h25, h26, h27, h28, h29, h31, h32, h33, h34, h35⟩, fz, hlt, _⟩ := H1.out.cells; have f26 := fz 26; clear fz)))
  go_wp2_with fail
  clear h0 h16 h17 h18 h23 h24 h25 h26 h27 h28 h29 h31 h32 h33 h34 h35 hlt f26
  obtain ⟨w2, ew2⟩ : ∃ w2, (w1.setCell ⟨bm, 26, none⟩ (.int .i64 (pendI tm cp 0 0))) = w2 := ⟨_, rfl⟩
  have H2 : Hid (MP w2 bm pm pb 0 st tm cp (pendI tm cp 0 0) ie) := Lib.hid (by rw [← ew2]; exact H1.out.setPd _)
  have Hb2 : Hid (Below B w w2) := Lib.hid (by rw [← ew2]; exact Hb1.out.setCell (p := ⟨bm, 26, none⟩) hB _)
  rw [ew2]
  clear ew2 H1 Hb1
  refine (one_sleep _ B bm pm pb st tm cp (pendI tm cp 0 0) ie H2.out hB (Nat.le_trans hBw Hb2.out.size) HST.out HTK.out HZ.out).mono ?_
  rintro e w3 ⟨rfl, hm3, hb3⟩
  have Hb3 := Lib.hid (Hb2.out.trans hb3)
  have H3 := Lib.hid hm3
  clear hm3 hb3 H2 Hb2
  obtain ⟨⟨h0, h16, h17, h18, h23, h24, h25, h26, h27, h28, h29, h31, h32, h33, h34, h35⟩, fz, hlt, _⟩ := H3.out.cells
  have f24 := fz 24
  clear fz
  have hwr : IntKind.i64.wrap (tm + 1) = tm + 1 := IntWalk.i64_in _ (by omega)
  go_wp2_with fail
  go_region_with (first | (go_at_call 19; refine (refW_any _ _).mono ?_; rintro e w' ⟨rfl, rfl⟩; rw [HW1.out]))
  go_wp2_with fail
  go_ret
  exact ⟨rfl, mp_drew (H3.out.setTm (tm + 1)), (Hb3.out.setCell (p := ⟨bm, 24, none⟩) hB _).drew⟩
set_option maxRecDepth 100000 in
set_option maxHeartbeats 4000000 in
theorem step_wake4 (w : World) (B : Nat) (bm pm pb : Nat) (st tm cp pd ie : Int) (h : MP w bm pm pb 0 st tm cp pd ie) (hB : B ≤ bm) (hBw : B ≤ w.heap.size) (ht : 0 ≤ tm ∧ tm ≤ 1000) (hst : (bits .and .i64 st 4 == 0) = false) (htk : tkB st (bits .and .i64 (pendI tm cp 0 0) ie) = false) (hz : (bits .and .i64 (pendI tm cp 0 0) ie == 0) = false) :
    Calls Try.prog 10 #[.pointer (some ⟨bm, 0, none⟩)] w (StWk w B bm) := by
  obtain ⟨t0, t1⟩ := ht
  have H := Lib.hid h
  obtain ⟨⟨h0, h16, h17, h18, h23, h24, h25, h26, h27, h28, h29, h31, h32, h33, h34, h35⟩, fz, hlt, _⟩ := h.cells
  have f26 := fz 26
  have HW1 : Hid (W (tm + 1) = tm + 1) := Lib.hid (W_of _ (by omega))
  have HST := Lib.hid hst
  have HTK := Lib.hid htk
  have HZ := Lib.hid hz
  clear hst htk hz
  clear h fz
  go_enter Try.func10, Try.ntmps10
  go_wp2_with fail
  go_region_with (first | (go_at_call 25; go_must (refine (mpend_any _ bm pm pb 0 st tm cp pd ie (by exact mp_drew H.out)).mono ?_; rintro e w1 ⟨rfl, hb1⟩; have H1 := Lib.hid (H.out.below (undrw hb1)); have Hb1 := Lib.hid ((undrw hb1).mono hBw); clear hb1 h0 h16 h17 h18 h23 h24 h25 h26 h27 h28 h29 h31 h32 h33 h34 h35 hlt f26; obtain ⟨⟨h0, h16, h17, h18, h23, h24, h25, h26, h27, h28, h29, h31, h32, h33, h34, h35⟩, fz, hlt, _⟩ := H1.out.cells; have f26 := fz 26; clear fz)))
  go_wp2_with fail
  clear h0 h16 h17 h18 h23 h24 h25 h26 h27 h28 h29 h31 h32 h33 h34 h35 hlt f26
  obtain ⟨w2, ew2⟩ : ∃ w2, (w1.setCell ⟨bm, 26, none⟩ (.int .i64 (pendI tm cp 0 0))) = w2 := ⟨_, rfl⟩
  have H2 : Hid (MP w2 bm pm pb 0 st tm cp (pendI tm cp 0 0) ie) := Lib.hid (by rw [← ew2]; exact H1.out.setPd _)
  have Hb2 : Hid (Below B w w2) := Lib.hid (by rw [← ew2]; exact Hb1.out.setCell (p := ⟨bm, 26, none⟩) hB _)
  rw [ew2]
  clear ew2 H1 Hb1
  refine (one_wake4 _ B bm pm pb st tm cp (pendI tm cp 0 0) ie H2.out hB (Nat.le_trans hBw Hb2.out.size) HST.out HTK.out HZ.out).mono ?_
  rintro e w3 ⟨rfl, hm3, hb3⟩
  have Hb3 := Lib.hid (Hb2.out.trans hb3)
  have H3 := Lib.hid hm3
  clear hm3 hb3 H2 Hb2
  obtain ⟨⟨h0, h16, h17, h18, h23, h24, h25, h26, h27, h28, h29, h31, h32, h33, h34, h35⟩, fz, hlt, _⟩ := H3.out.cells
  have f24 := fz 24
  clear fz
  have hwr : IntKind.i64.wrap (tm + 1) = tm + 1 := IntWalk.i64_in _ (by omega)
  go_wp2_with fail
  go_region_with (first | (go_at_call 19; refine (refW_any _ _).mono ?_; rintro e w' ⟨rfl, rfl⟩; rw [HW1.out]))
  go_wp2_with fail
  go_ret
  exact ⟨rfl, ⟨4, by decide, (H3.out.setTm (tm + 1)).cells.1.2.1⟩, (Hb3.out.setCell (p := ⟨bm, 24, none⟩) hB _).drew⟩
set_option maxRecDepth 100000 in
set_option maxHeartbeats 4000000 in
theorem step_trap (w : World) (B : Nat) (bm pm pb : Nat) (st tm cp pd ie : Int) (h : MP w bm pm pb 0 st tm cp pd ie) (hB : B ≤ bm) (hBw : B ≤ w.heap.size) (ht : 0 ≤ tm ∧ tm ≤ 1000) (htk : tkB st (bits .and .i64 (pendI tm cp 0 0) ie) = true) (htv : tk st (bits .and .i64 (pendI tm cp 0 0) ie) = 2147483648) :
    Calls Try.prog 10 #[.pointer (some ⟨bm, 0, none⟩)] w (StWk w B bm) := by
  obtain ⟨t0, t1⟩ := ht
  have H := Lib.hid h
  obtain ⟨⟨h0, h16, h17, h18, h23, h24, h25, h26, h27, h28, h29, h31, h32, h33, h34, h35⟩, fz, hlt, _⟩ := h.cells
  have f26 := fz 26
  have HW1 : Hid (W (tm + 1) = tm + 1) := Lib.hid (W_of _ (by omega))
  have HTK := Lib.hid htk
  have HTV := Lib.hid htv
  clear htk htv
  clear h fz
  go_enter Try.func10, Try.ntmps10
  go_wp2_with fail
  go_region_with (first | (go_at_call 25; go_must (refine (mpend_any _ bm pm pb 0 st tm cp pd ie (by exact mp_drew H.out)).mono ?_; rintro e w1 ⟨rfl, hb1⟩; have H1 := Lib.hid (H.out.below (undrw hb1)); have Hb1 := Lib.hid ((undrw hb1).mono hBw); clear hb1 h0 h16 h17 h18 h23 h24 h25 h26 h27 h28 h29 h31 h32 h33 h34 h35 hlt f26; obtain ⟨⟨h0, h16, h17, h18, h23, h24, h25, h26, h27, h28, h29, h31, h32, h33, h34, h35⟩, fz, hlt, _⟩ := H1.out.cells; have f26 := fz 26; clear fz)))
  go_wp2_with fail
  clear h0 h16 h17 h18 h23 h24 h25 h26 h27 h28 h29 h31 h32 h33 h34 h35 hlt f26
  obtain ⟨w2, ew2⟩ : ∃ w2, (w1.setCell ⟨bm, 26, none⟩ (.int .i64 (pendI tm cp 0 0))) = w2 := ⟨_, rfl⟩
  have H2 : Hid (MP w2 bm pm pb 0 st tm cp (pendI tm cp 0 0) ie) := Lib.hid (by rw [← ew2]; exact H1.out.setPd _)
  have Hb2 : Hid (Below B w w2) := Lib.hid (by rw [← ew2]; exact Hb1.out.setCell (p := ⟨bm, 26, none⟩) hB _)
  rw [ew2]
  clear ew2 H1 Hb1
  refine (one_trap _ B bm pm pb st tm cp (pendI tm cp 0 0) ie H2.out hB HTK.out HTV.out).mono ?_
  rintro e w3 ⟨rfl, hm3, hb3⟩
  have Hb3 := Lib.hid (Hb2.out.trans hb3)
  have H3 := Lib.hid hm3
  clear hm3 hb3 H2 Hb2
  obtain ⟨g, hk, hg16, hg24⟩ := H3.out
  have h24 : w3.cell? ⟨bm, 24, none⟩ = some (.int .i64 tm) := by rw [hk.cell (by omega), hg24]
  have h16 : w3.cell? ⟨bm, 16, none⟩ = some (.int .i64 64) := by rw [hk.cell (by omega), hg16]
  have f24 := hk.frozen 24
  clear hk hg16 hg24
  have hwr : IntKind.i64.wrap (tm + 1) = tm + 1 := IntWalk.i64_in _ (by omega)
  go_wp2_with fail
  go_region_with (first | (go_at_call 19; refine (refW_any _ _).mono ?_; rintro e w' ⟨rfl, rfl⟩; rw [HW1.out]))
  go_wp2_with fail
  go_ret
  refine ⟨rfl, ⟨64, by decide, ?_⟩, (Hb3.out.setCell (p := ⟨bm, 24, none⟩) hB _).drew⟩
  show (w3.setCell ⟨bm, 24, none⟩ _).cell? ⟨bm, 16, none⟩ = _
  rw [World.cell?_setCell_other _ _ _ _ (by simp)]; exact h16
end Go.Proofs.Ytdnmjhkgibaadaa
