/- State of the reference's machine: a contract. -/
import Derived.Test.YtdnmjhkgibaadaaNewM
namespace Go.Proofs.Ytdnmjhkgibaadaa
open Go.RowKit
attribute [local go_sem ↓] Go.wp_at_zero Go.wp_at_succ

theorem Try.infoS64 : (Try.prog.info? 3).map (fun i => (i.zero, i.size, i.bytes)) = some (some (.int .i64 0), 1, 8) := by kernel_rfl
section
variable {W0 W w' : World} {B : Nat} {v0 v1 v2 v3 : Value}
theorem keepM (hS : W.cell? ⟨B, 16, none⟩ = some v0 ∧ W.cell? ⟨B, 34, none⟩ = some v1 ∧ W.cell? ⟨B, 35, none⟩ = some v2 ∧ W.cell? ⟨B, 30, none⟩ = some v3 ∧ Below W0.heap.size W0 W) (hb : Below W.heap.size W w') : w'.cell? ⟨B, 16, none⟩ = some v0 ∧ w'.cell? ⟨B, 34, none⟩ = some v1 ∧ w'.cell? ⟨B, 35, none⟩ = some v2 ∧ w'.cell? ⟨B, 30, none⟩ = some v3 ∧ Below W0.heap.size W0 w' := by
  obtain ⟨h0, h1, h2, h3, h5⟩ := hS
  have hc := cell_below hb
  exact ⟨hc _ _ h0, hc _ _ h1, hc _ _ h2, hc _ _ h3, h5.trans (hb.mono h5.size)⟩
theorem keepMA (hS : W.cell? ⟨B, 16, none⟩ = some v0 ∧ W.cell? ⟨B, 34, none⟩ = some v1 ∧ W.cell? ⟨B, 35, none⟩ = some v2 ∧ W.cell? ⟨B, 30, none⟩ = some v3 ∧ Below W0.heap.size W0 W) (o : Obj) : (W.alloc o).cell? ⟨B, 16, none⟩ = some v0 ∧ (W.alloc o).cell? ⟨B, 34, none⟩ = some v1 ∧ (W.alloc o).cell? ⟨B, 35, none⟩ = some v2 ∧ (W.alloc o).cell? ⟨B, 30, none⟩ = some v3 ∧ Below W0.heap.size W0 (W.alloc o) := by
  obtain ⟨h0, h1, h2, h3, h5⟩ := hS
  have hc := cell_alloc W o
  exact ⟨hc _ _ h0, hc _ _ h1, hc _ _ h2, hc _ _ h3, h5.alloc h5.size o⟩
theorem keepMD (hS : W.drew.cell? ⟨B, 16, none⟩ = some v0 ∧ W.drew.cell? ⟨B, 34, none⟩ = some v1 ∧ W.drew.cell? ⟨B, 35, none⟩ = some v2 ∧ W.drew.cell? ⟨B, 30, none⟩ = some v3 ∧ Below W0.heap.size W0 W.drew) (o : Obj) : (W.alloc o).drew.cell? ⟨B, 16, none⟩ = some v0 ∧ (W.alloc o).drew.cell? ⟨B, 34, none⟩ = some v1 ∧ (W.alloc o).drew.cell? ⟨B, 35, none⟩ = some v2 ∧ (W.alloc o).drew.cell? ⟨B, 30, none⟩ = some v3 ∧ Below W0.heap.size W0 (W.alloc o).drew := by
  obtain ⟨h0, h1, h2, h3, h6⟩ := hS
  have hc := cell_alloc W o
  exact ⟨hc _ _ h0, hc _ _ h1, hc _ _ h2, hc _ _ h3, ⟨h6.os, h6.tape, h6.output, Nat.le_trans h6.size (by simp), fun k hk => (Below.heap_alloc W o k (Nat.lt_of_lt_of_le hk h6.size)).trans (h6.block k hk)⟩⟩
theorem keepMS (hS : W.cell? ⟨B, 16, none⟩ = some v0 ∧ W.cell? ⟨B, 34, none⟩ = some v1 ∧ W.cell? ⟨B, 35, none⟩ = some v2 ∧ W.cell? ⟨B, 30, none⟩ = some v3 ∧ Below W0.heap.size W0 W) (p : Nat) (u0 u1 u2 u3 u4 u5 : Value) (hp : p ≠ B) (hW : W0.heap.size ≤ p) : ((((((W.setCell ⟨p, 0, none⟩ u0).setCell ⟨p, 1, none⟩ u1).setCell ⟨p, 2, none⟩ u2).setCell ⟨p, 3, none⟩ u3).setCell ⟨p, 4, none⟩ u4).setCell ⟨p, 5, none⟩ u5).cell? ⟨B, 16, none⟩ = some v0 ∧ ((((((W.setCell ⟨p, 0, none⟩ u0).setCell ⟨p, 1, none⟩ u1).setCell ⟨p, 2, none⟩ u2).setCell ⟨p, 3, none⟩ u3).setCell ⟨p, 4, none⟩ u4).setCell ⟨p, 5, none⟩ u5).cell? ⟨B, 34, none⟩ = some v1 ∧ ((((((W.setCell ⟨p, 0, none⟩ u0).setCell ⟨p, 1, none⟩ u1).setCell ⟨p, 2, none⟩ u2).setCell ⟨p, 3, none⟩ u3).setCell ⟨p, 4, none⟩ u4).setCell ⟨p, 5, none⟩ u5).cell? ⟨B, 35, none⟩ = some v2 ∧ ((((((W.setCell ⟨p, 0, none⟩ u0).setCell ⟨p, 1, none⟩ u1).setCell ⟨p, 2, none⟩ u2).setCell ⟨p, 3, none⟩ u3).setCell ⟨p, 4, none⟩ u4).setCell ⟨p, 5, none⟩ u5).cell? ⟨B, 30, none⟩ = some v3 ∧ Below W0.heap.size W0 ((((((W.setCell ⟨p, 0, none⟩ u0).setCell ⟨p, 1, none⟩ u1).setCell ⟨p, 2, none⟩ u2).setCell ⟨p, 3, none⟩ u3).setCell ⟨p, 4, none⟩ u4).setCell ⟨p, 5, none⟩ u5) := by
  obtain ⟨h0, h1, h2, h3, h6⟩ := hS
  have far : ∀ (X : World) (k j : Nat) (u v : Value), X.cell? ⟨B, j, none⟩ = some v → (X.setCell ⟨p, k, none⟩ u).cell? ⟨B, j, none⟩ = some v := fun X k j u v h => by
    rw [World.cell?_setCell_other _ _ _ _ (by intro e; injection e; omega)]; exact h
  have all : ∀ (j : Nat) (v : Value), W.cell? ⟨B, j, none⟩ = some v → ((((((W.setCell ⟨p, 0, none⟩ u0).setCell ⟨p, 1, none⟩ u1).setCell ⟨p, 2, none⟩ u2).setCell ⟨p, 3, none⟩ u3).setCell ⟨p, 4, none⟩ u4).setCell ⟨p, 5, none⟩ u5).cell? ⟨B, j, none⟩ = some v := fun j v h => far _ _ _ _ _ (far _ _ _ _ _ (far _ _ _ _ _ (far _ _ _ _ _ (far _ _ _ _ _ (far _ _ _ _ _ h)))))
  exact ⟨all _ _ h0, all _ _ h1, all _ _ h2, all _ _ h3, ((((((h6.setCell (p := ⟨p, 0, none⟩) hW u0).setCell (p := ⟨p, 1, none⟩) hW u1).setCell (p := ⟨p, 2, none⟩) hW u2).setCell (p := ⟨p, 3, none⟩) hW u3).setCell (p := ⟨p, 4, none⟩) hW u4).setCell (p := ⟨p, 5, none⟩) hW u5)⟩
theorem pickM (hS : W.cell? ⟨B, 16, none⟩ = some v0 ∧ W.cell? ⟨B, 34, none⟩ = some v1 ∧ W.cell? ⟨B, 35, none⟩ = some v2 ∧ W.cell? ⟨B, 30, none⟩ = some v3 ∧ Below W0.heap.size W0 W) : Below W0.heap.size W0 W := hS.2.2.2.2
end
theorem below_ud2 {B : Nat} {w w' : World} (h : Below B w.drew w') : Below B w w' := ⟨h.os, h.tape, h.output, h.size, h.block⟩
theorem src_of {w : World} {b off n : Nat} {f : Nat → Int} (h : ∀ k, k < n → w.cell? ⟨b, off + k, none⟩ = some (.int .i64 (f k))) : Src w (some ⟨b, off, none⟩) n (csL f n) := ints_src' fun k hk => ⟨b, off, rfl, h k hk⟩
def cP (p k : Nat) : Nat := if k = p then 4 else 2
/-- Behind State's first statement. -/
def CutS (w W0 : World) (fc : Nat → Int) (s : Value) (wx : World) : Prop :=
  ∃ p ar cr ac cc ao co, s = .pointer (some ⟨p, 0, none⟩) ∧ W0.heap.size ≤ p ∧ Box wx p 43 (.slice ar 16 cr) (.int .i64 0) (.slice ac 11 cc) (.bool false) (.bool false) (.slice ao 0 co) ∧ Box wx w.heap.size 43 (.slice none 0 0) (.int .i64 0) (.slice none 0 0) (.bool false) (.bool false) (.slice none 0 0) ∧ Own wx (cP p) 2 W0.heap.size (.slice ac 11 cc) (csL fc 11) ∧ Below W0.heap.size W0 wx
theorem fin_state (w W0 uC wC uO wO F : World) (p cr cc co : Nat) (ar ac ao : Option Addr) (fc : Nat → Int) (kC : Nat → Nat)
    (b2 : Box W0 w.heap.size 43 (.slice none 0 0) (.int .i64 0) (.slice none 0 0) (.bool false) (.bool false) (.slice none 0 0)) (hp0 : W0.heap.size ≤ p)
    (h1 : Below W0.heap.size W0 uC) (hC : Below uC.heap.size uC wC) (oC : Own wC kC 0 uC.heap.size (.slice ac 11 cc) ([] ++ csL fc 11))
    (h2 : Below wC.heap.size wC uO) (hO : Below uO.heap.size uO wO)
    (bF : Box F p 43 (.slice ar 16 cr) (.int .i64 0) (.slice ac 11 cc) (.bool false) (.bool false) (.slice ao 0 co)) (hF : ∀ k, k ≠ p → k < wO.heap.size → F.heap[k]? = wO.heap[k]?) (hsF : wO.heap.size ≤ F.heap.size) (hBF : W0.heap.size ≤ p → Below W0.heap.size wO F)
    (hp : p < uC.heap.size ∨ wC.heap.size ≤ p) : CutS w W0 fc (.pointer (some ⟨p, 0, none⟩)) F := by
  have z1 := h1.size
  have zC := hC.size
  have z2 := h2.size
  have zO := hO.size
  have hWO : Below W0.heap.size W0 wO := ((h1.trans (hC.mono z1)).trans (h2.mono (by omega))).trans (hO.mono (by omega))
  have hWF : Below W0.heap.size W0 F := hWO.trans (hBF hp0)
  rw [List.nil_append] at oC
  refine ⟨p, ar, cr, ac, cc, ao, co, rfl, hp0, bF, b2.below hWF b2.lt, ?_, hWF⟩
  exact (oC.keep (w' := F) (c' := cP p) (d' := 2) (by omega) fun k hB hk _ => ⟨by unfold cP; rw [if_neg (by omega)], by rw [hF k (by omega) (by omega), hO.block k (by omega), h2.block k (by omega)]⟩).base (by omega)
/-- What State hands back: control registers that read as F. -/
def MsP (w : World) (F : Nat → Int) (e : Ending) (w' : World) : Prop :=
  ∃ vr vo ac cc, e = .returned (.agg #[vr, .int .i64 0, .slice ac 11 cc, .bool false, .bool false, vo]) ∧ IntsAt w' ac 11 F ∧ Below w.heap.size w w'
set_option maxRecDepth 100000 in
set_option maxHeartbeats 8000000 in
theorem state_any (w : World) (bm pm pb : Nat) (st tm cp pd ie : Int) (fc : Nat → Int) (h : MP w bm pm pb 0 st tm cp pd ie) (hR : ∀ k, k < 16 → w.cell? ⟨bm, k, none⟩ = some (.int .i64 0)) (hC : ∀ k, k < 11 → w.cell? ⟨bm, 17 + k, none⟩ = some (.int .i64 (fc k))) (h30' : w.cell? ⟨bm, 30, none⟩ = some (.slice none 0 0)) :
    Calls Try.prog 9 #[.pointer (some ⟨bm, 0, none⟩)] w (MsP w (fun k => if k = 9 then pendI tm cp 0 0 else fc k)) := by
  obtain ⟨i0, hi, hz0, hz1, hz2⟩ := info_parts Try.infoS64
  have Hi := Lib.hid hi
  have Hz0 := Lib.hid hz0
  have Hz1 := Lib.hid hz1
  have Hz2 := Lib.hid hz2
  clear hi hz0 hz1 hz2
  obtain ⟨i8, hi, hz0, hz1, hz2⟩ := info_parts Try.infoM8
  have Ji := Lib.hid hi
  have Jz0 := Lib.hid hz0
  have Jz1 := Lib.hid hz1
  have Jz2 := Lib.hid hz2
  clear hi hz0 hz1 hz2
  obtain ⟨W0, hW0⟩ : ∃ W0, (w.alloc (.cells #[.slice none 0 0, .int .i64 0, .slice none 0 0, .bool false, .bool false, .slice none 0 0] 43)) = W0 := ⟨_, rfl⟩
  have b2 : Box W0 w.heap.size 43 (.slice none 0 0) (.int .i64 0) (.slice none 0 0) (.bool false) (.bool false) (.slice none 0 0) := by rw [← hW0]; exact Box.new _ _ _ _ _ _ _ _
  have hbw : Below w.heap.size w W0 := by rw [← hW0]; exact (Below.refl _ _).alloc (Nat.le_refl _) _
  have hs0 : W0.heap.size = w.heap.size + 1 := by rw [← hW0]; simp
  obtain ⟨⟨h0, h16, h17, h18, h23, h24, h25, h26, h27, h28, h29, h31, h32, h33, h34, h35⟩, fz, hlt, _⟩ := h.cells
  have hcb := cell_below hbw
  have HSS := Lib.hid (show W0.drew.cell? ⟨bm, 16, none⟩ = some (.int .i64 0) ∧ W0.drew.cell? ⟨bm, 34, none⟩ = some (.bool false) ∧ W0.drew.cell? ⟨bm, 35, none⟩ = some (.bool false) ∧ W0.drew.cell? ⟨bm, 30, none⟩ = some (.slice none 0 0) ∧ Below W0.heap.size W0 W0.drew from ⟨hcb _ _ h16, hcb _ _ h34, hcb _ _ h35, hcb _ _ h30', (Below.refl _ _).drew⟩)
  have SR : Hid (Src W0 (some ⟨bm, 0, none⟩) 16 (csL (fun _ => 0) 16)) := Lib.hid (src_of fun k hk => by rw [Nat.zero_add]; exact hcb _ _ (hR k hk))
  have SC : Hid (Src W0 (some ⟨bm, 17, none⟩) 11 (csL fc 11)) := Lib.hid (src_of fun k hk => hcb _ _ (hC k hk))
  have SO : Hid (Src W0 none 0 []) := Lib.hid ⟨rfl, (fun u hu => by simp at hu), (fun h => absurd h (by omega)), fun ad e => by cases e⟩
  have H := Lib.hid (h.below hbw)
  have HW0 := Lib.hid hW0
  have HB2 := Lib.hid b2
  have HBW := Lib.hid hbw
  have hB0 : w.heap.size < W0.heap.size := by omega
  have hbm : bm < W0.heap.size := by omega
  clear h hR hC h30' hW0 b2 hbw hcb fz h0 h16 h17 h18 h23 h24 h25 h26 h27 h28 h29 h31 h32 h33 h34 h35 hs0
  go_enter Try.func9, Try.ntmps9
  go_upto_region 1 with fail
  rw [HW0.out]
  go_cut [3] (CutS w W0 fc)
  case first =>
    go_region_held3 (fun w' => w'.cell? ⟨bm, 16, none⟩ = some (.int .i64 0) ∧ w'.cell? ⟨bm, 34, none⟩ = some (.bool false) ∧ w'.cell? ⟨bm, 35, none⟩ = some (.bool false) ∧ w'.cell? ⟨bm, 30, none⟩ = some (.slice none 0 0) ∧ Below W0.heap.size W0 w') (first | (with_reducible exact HSS.out) | (with_reducible assumption) | (with_reducible exact keepMD HSS.out _) | (with_reducible exact keepM (by assumption) (by assumption)) | (with_reducible exact keepMA (by assumption) _) | (with_reducible exact keepMA HSO.out _) | (with_reducible refine keepMS (by assumption) _ _ _ _ _ _ _ ?_ ?_ <;> omega))
      (first
        | (refine step_append_mine _ (by rfl) (.const (.slice none 0 0)) (.tmp 7) 41 (by rfl) 3 i0 (.int .i64 0) 8 Try.underlying41 Hi.out Hz0.out Hz1.out Hz2.out rfl (fun _ => 1) 0 _ (.slice none 0 0) [] 0 rfl (by rfl) (Own.nil _ _ _ _) (Nat.le_refl _) (some ⟨bm, 0, none⟩) 16 16 (csL (fun _ => 0) 16) (by rfl) (by exact SR.out.below (pickM (by assumption))) (by unfold maxLen; omega) (by omega) 16 (by rfl) ?_; intro ar cr wR kR hoR hstR; have hbR := stp_all hstR; have HbR := Lib.hid (below_ud2 hbR); have sR := (pickM (keepM (by assumption) hbR)).size; (try (have HZ := Lib.hid ((Box.new W0 43 (.slice none 0 0) (.int .i64 0) (.slice none 0 0) (.bool false) (.bool false) (.slice none 0 0)).below HbR.out (by simp)))); clear hoR hstR)
        | (refine step_append_mine _ (by rfl) (.const (.slice none 0 0)) (.tmp 16) 41 (by rfl) 3 i0 (.int .i64 0) 8 Try.underlying41 Hi.out Hz0.out Hz1.out Hz2.out rfl (fun _ => 1) 0 _ (.slice none 0 0) [] 0 rfl (by rfl) (Own.nil _ _ _ _) (Nat.le_refl _) (some ⟨bm, 17, none⟩) 11 11 (csL fc 11) (by rfl) (by exact SC.out.below (pickM (by assumption))) (by unfold maxLen; omega) (by omega) 11 (by rfl) ?_; intro ac cc wC kC hoC hstC; have hbC := stp_all hstC; have HoC := Lib.hid hoC; have HbC := Lib.hid hbC; have sC := (pickM (keepM (by assumption) hbC)).size; (first | (have q := HZ.out.below HbC.out HZ.out.lt; clear HZ; have HZ := Lib.hid q; clear q) | (have HZ := Lib.hid ((Box.new wR 43 (.slice none 0 0) (.int .i64 0) (.slice none 0 0) (.bool false) (.bool false) (.slice none 0 0)).below HbC.out (by simp))) | skip); clear hoC hstC)
        | (refine step_append_mine _ (by rfl) (.const (.slice none 0 0)) (.tmp 30) 25 (by rfl) 5 i8 (.int .u8 0) 1 Try.underlying25 Ji.out Jz0.out Jz1.out Jz2.out rfl (fun _ => 1) 0 _ (.slice none 0 0) [] 0 rfl (by rfl) (Own.nil _ _ _ _) (Nat.le_refl _) none 0 0 [] (by rfl) (by exact SO.out.below (pickM (by assumption))) (by unfold maxLen; omega) (by omega) 0 (by rfl) ?_; intro ao co wO kO hoO hstO; have hbO := stp_all hstO; have HSO := Lib.hid (keepM (by assumption) hbO); have HbO := Lib.hid hbO; have sO := (pickM HSO.out).size; (first | (have q := HZ.out.below HbO.out HZ.out.lt; clear HZ; have HZ := Lib.hid q; clear q) | (have HZ := Lib.hid ((Box.new wC 43 (.slice none 0 0) (.int .i64 0) (.slice none 0 0) (.bool false) (.bool false) (.slice none 0 0)).below HbO.out (by simp))) | skip); (try (obtain ⟨z0, z1, z2, z3, z4, z5, zf⟩ := HZ.out.cells; have y0 := zf 0; have y1 := zf 1; have y2 := zf 2; have y3 := zf 3; have y4 := zf 4; have y5 := zf 5; clear zf)); clear hoO hstO))
    · go_wp2_with fail
      go_meet
      exact fin_state w W0 wR wC wC wO _ wO.heap.size cr cc co ar ac ao fc kC HB2.out sO HbR.out HbC.out HoC.out (Below.refl _ _) HbO.out (Box.new _ _ _ _ _ _ _ _) (fun k _ hk => Below.heap_alloc _ _ _ hk) (by simp) (fun _ => (Below.refl _ _).alloc sO _) (.inr HbO.out.size)
    · go_wp2_with fail
      go_meet
      obtain ⟨q1, q2, q3, q4⟩ := st6 (s0 := .slice ar 16 cr) (s1 := .int .i64 0) (s2 := .slice ac 11 cc) (s3 := .bool false) (s4 := .bool false) (s5 := .slice ao 0 co) HZ.out rfl
      exact fin_state w W0 wR wC (wC.alloc (.cells #[.slice none 0 0, .int .i64 0, .slice none 0 0, .bool false, .bool false, .slice none 0 0] 43)) wO _ wC.heap.size cr cc co ar ac ao fc kC HB2.out sC HbR.out HbC.out HoC.out ((Below.refl _ _).alloc (Nat.le_refl _) _) HbO.out q1 (fun k hk _ => q2 k hk) (Nat.le_of_eq q3.symm) (fun h => q4 _ h) (.inr (Nat.le_refl _))
    · go_wp2_with fail
      go_meet
      obtain ⟨q1, q2, q3, q4⟩ := st6 (s0 := .slice ar 16 cr) (s1 := .int .i64 0) (s2 := .slice ac 11 cc) (s3 := .bool false) (s4 := .bool false) (s5 := .slice ao 0 co) HZ.out rfl
      exact fin_state w W0 (wR.alloc (.cells #[.slice none 0 0, .int .i64 0, .slice none 0 0, .bool false, .bool false, .slice none 0 0] 43)) wC wC wO _ wR.heap.size cr cc co ar ac ao fc kC HB2.out sR (HbR.out.alloc sR _) HbC.out HoC.out (Below.refl _ _) HbO.out q1 (fun k hk _ => q2 k hk) (Nat.le_of_eq q3.symm) (fun h => q4 _ h) (.inl (by simp))
    · go_wp2_with fail
      go_meet
      obtain ⟨q1, q2, q3, q4⟩ := st6 (s0 := .slice ar 16 cr) (s1 := .int .i64 0) (s2 := .slice ac 11 cc) (s3 := .bool false) (s4 := .bool false) (s5 := .slice ao 0 co) HZ.out rfl
      have hz := HbR.out.size
      simp only [World.size_alloc] at hz
      exact fin_state w W0 wR wC wC wO _ W0.heap.size cr cc co ar ac ao fc kC HB2.out (Nat.le_refl _) (((Below.refl _ _).alloc (Nat.le_refl _) _).trans (HbR.out.mono (by simp))) HbC.out HoC.out (Below.refl _ _) HbO.out q1 (fun k hk _ => q2 k hk) (Nat.le_of_eq q3.symm) (fun h => q4 _ h) (.inl (by omega))
  case rest =>
    obtain ⟨p, ar, cr, ac, cc, ao, co, rfl, hp, b1, b2, oC, hb⟩ := hcut
    have H1 := Lib.hid (H.out.below hb)
    have Hb := Lib.hid (HBW.out.trans (hb.mono HBW.out.size))
    have hsz := hb.size
    have HB1 := Lib.hid b1
    have HBR := Lib.hid b2
    have HoC := Lib.hid oC
    obtain ⟨g0, g1, g2, g3, g4, g5, _⟩ := b1.cells
    have HS0 := Lib.hid (show wc.drew.cell? ⟨p, 2, none⟩ = some (.slice ac 11 cc) from g2)
    clear b1 b2 oC hb g0 g1 g2 g3 g4 g5 H HSS SR SC SO HB2 HBW
    obtain ⟨b, off, hac, hcb, hBb, hlb, _, _⟩ := own_at HoC.out (by omega)
    subst hac
    have nbp : b ≠ p := by
      intro e; subst e
      unfold cP at hcb; rw [if_pos rfl] at hcb; omega
    have nbp2 : p ≠ b := fun e => nbp e.symm
    have HCB := Lib.hid hcb
    clear hcb
    go_upto_region 2 with fail
    go_region_held3 (fun w' => w'.cell? ⟨p, 2, none⟩ = some (.slice (some ⟨b, off, none⟩) 11 cc)) (first | (with_reducible exact HS0.out) | (with_reducible assumption) | (with_reducible exact HS4.out) | go_keep)
      (first | (go_at_call 25; go_must (refine (mpend_any _ bm pm pb 0 st tm cp pd ie (by exact mp_drew H1.out)).mono ?_; rintro e w4 ⟨rfl, hb4⟩; have hb4' := undrw hb4; have HB4 := Lib.hid hb4'; have HO4 := Lib.hid (HoC.out.below hb4'); have HS4 := Lib.hid ((HB1.out.below hb4' HB1.out.lt).cells.2.2.1); obtain ⟨b', off', e', _, _, _, hc4, hf4⟩ := own_at HO4.out (by omega); injection e' with e'; injection e' with e1 e2; subst e1 e2; have c9 := hc4 9 (by omega); have f9 := hf4 9 (by omega); clear hb4 hb4' hc4 hf4)))
    clear c9 f9
    obtain ⟨W5, hW5⟩ : ∃ W5, (w4.setCell ⟨b, off + 9, none⟩ (.int .i64 (pendI tm cp 0 0))) = W5 := ⟨_, rfl⟩
    have o5 := own_put HO4.out 9 (by omega) (pendI tm cp 0 0)
    have k5 : ∀ k, k ≠ b → W5.heap[k]? = w4.heap[k]? := fun k hk => by rw [← hW5]; exact Below.heap_setCell _ _ _ _ hk
    have s5 : W5.heap.size = w4.heap.size := by rw [← hW5]; simp
    have b5 : Box W5 p 43 (.slice ar 16 cr) (.int .i64 0) (.slice (some ⟨b, off, none⟩) 11 cc) (.bool false) (.bool false) (.slice ao 0 co) := (HB1.out.below HB4.out HB1.out.lt).keep (k5 p nbp2)
    have r5 : Box W5 w.heap.size 43 (.slice none 0 0) (.int .i64 0) (.slice none 0 0) (.bool false) (.bool false) (.slice none 0 0) := (HBR.out.below HB4.out HBR.out.lt).keep (k5 _ (by omega))
    have hb5 : Below w.heap.size w W5 := by rw [← hW5]; exact ((Hb.out.trans (HB4.out.mono Hb.out.size)).setCell (p := ⟨b, off + 9, none⟩) (show w.heap.size ≤ b by omega) _)
    have O5 : Hid (Own W5 (cP p) 2 W0.heap.size (.slice (some ⟨b, off, none⟩) 11 cc) (csL (fun j => if j = 9 then pendI tm cp 0 0 else fc j) 11)) := Lib.hid (by rw [← hW5]; exact o5)
    obtain ⟨g0, g1, g2, g3, g4, g5, _⟩ := b5.cells
    obtain ⟨q0, q1, q2, q3, q4, q5, qf⟩ := r5.cells
    have d0 := qf 0
    have d1 := qf 1
    have d2 := qf 2
    have d3 := qf 3
    have d4 := qf 4
    have d5 := qf 5
    have R5 := Lib.hid r5
    have HB5 := Lib.hid hb5
    clear qf r5 b5 o5 k5 hb5 s5
    go_upto_region 3 with fail
    rw [hW5]
    clear hW5
    go_wp2_with fail
    obtain ⟨W6, hW6⟩ : ∃ W6, ((((((W5.setCell ⟨w.heap.size, 0, none⟩ (.slice ar 16 cr)).setCell ⟨w.heap.size, 1, none⟩ (.int .i64 0)).setCell ⟨w.heap.size, 2, none⟩ (.slice (some ⟨b, off, none⟩) 11 cc)).setCell ⟨w.heap.size, 3, none⟩ (.bool false)).setCell ⟨w.heap.size, 4, none⟩ (.bool false)).setCell ⟨w.heap.size, 5, none⟩ (.slice ao 0 co)) = W6 := ⟨_, rfl⟩
    rw [hW6]
    obtain ⟨b6, k6, s6, l6⟩ := st6 R5.out hW6
    obtain ⟨r0, r1, r2, r3, r4, r5, _⟩ := b6.cells
    refine bodyPost_ret (v := .agg #[.slice ar 16 cr, .int .i64 0, .slice (some ⟨b, off, none⟩) 11 cc, .bool false, .bool false, .slice ao 0 co]) (by simp [results, Try.results9, go_sem, r0, r1, r2, r3, r4, r5]) rfl ?_
    have o6 := O5.out.keep (w' := W6) (c' := cP p) (d' := 2) (by omega) fun k hB _ hc => ⟨hc, k6 k (by omega)⟩
    exact ⟨_, _, _, _, rfl, own_ints o6, HB5.out.trans (l6 _ (Nat.le_refl _))⟩
end Go.Proofs.Ytdnmjhkgibaadaa
