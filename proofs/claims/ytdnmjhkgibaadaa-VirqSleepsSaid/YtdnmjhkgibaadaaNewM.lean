/- NewMachine of the reference, with wfi at address 0: a contract. -/
import Derived.Test.YtdnmjhkgibaadaaBegin
import Derived.Test.YtdnmjhkgibaadaaApp
namespace Go.Proofs.Ytdnmjhkgibaadaa
open Go.RowKit
attribute [local go_sem ↓] Go.wp_at_zero Go.wp_at_succ

theorem keepN {X W w' : World} {b0 o0 b1 o1 b2 o2 b3 o3 b4 o4 : Nat} {v0 v1 v2 v3 v4 : Value} (hS : W.cell? ⟨b0, o0, none⟩ = some v0 ∧ W.cell? ⟨b1, o1, none⟩ = some v1 ∧ W.cell? ⟨b2, o2, none⟩ = some v2 ∧ W.cell? ⟨b3, o3, none⟩ = some v3 ∧ W.cell? ⟨b4, o4, none⟩ = some v4 ∧ Below X.heap.size X W) (hb : Below W.heap.size W w') : w'.cell? ⟨b0, o0, none⟩ = some v0 ∧ w'.cell? ⟨b1, o1, none⟩ = some v1 ∧ w'.cell? ⟨b2, o2, none⟩ = some v2 ∧ w'.cell? ⟨b3, o3, none⟩ = some v3 ∧ w'.cell? ⟨b4, o4, none⟩ = some v4 ∧ Below X.heap.size X w' := by
  obtain ⟨h0, h1, h2, h3, h4, h5⟩ := hS
  have hc := cell_below hb
  exact ⟨hc _ _ h0, hc _ _ h1, hc _ _ h2, hc _ _ h3, hc _ _ h4, h5.trans (hb.mono h5.size)⟩
theorem keepNA {X W : World} {b0 o0 b1 o1 b2 o2 b3 o3 b4 o4 : Nat} {v0 v1 v2 v3 v4 : Value} (hS : W.cell? ⟨b0, o0, none⟩ = some v0 ∧ W.cell? ⟨b1, o1, none⟩ = some v1 ∧ W.cell? ⟨b2, o2, none⟩ = some v2 ∧ W.cell? ⟨b3, o3, none⟩ = some v3 ∧ W.cell? ⟨b4, o4, none⟩ = some v4 ∧ Below X.heap.size X W) (o : Obj) : (W.alloc o).cell? ⟨b0, o0, none⟩ = some v0 ∧ (W.alloc o).cell? ⟨b1, o1, none⟩ = some v1 ∧ (W.alloc o).cell? ⟨b2, o2, none⟩ = some v2 ∧ (W.alloc o).cell? ⟨b3, o3, none⟩ = some v3 ∧ (W.alloc o).cell? ⟨b4, o4, none⟩ = some v4 ∧ Below X.heap.size X (W.alloc o) := by
  obtain ⟨h0, h1, h2, h3, h4, h5⟩ := hS
  have hc := cell_alloc W o
  exact ⟨hc _ _ h0, hc _ _ h1, hc _ _ h2, hc _ _ h3, hc _ _ h4, h5.alloc h5.size o⟩
/-- What NewMachine hands back. -/
def NwP (w : World) (e : Ending) (w' : World) : Prop :=
  ∃ (bm pm pb : Nat) (g : Nat → Value), e = .returned (.pointer (some ⟨bm, 0, none⟩)) ∧ Blk w' bm 38 39 g ∧ (∀ k, k < 17 → g k = .int .i64 0) ∧ g 17 = .int .i64 4 ∧ (∀ k, 18 ≤ k → k < 28 → g k = .int .i64 0) ∧ g 28 = .pointer (some ⟨pm, 0, none⟩) ∧ g 29 = .slice none 0 0 ∧ g 34 = .bool false ∧ g 35 = .bool false ∧ (g 30 = .slice none 0 0 ∧ g 31 = .pointer none ∧ g 32 = .int .i64 0 ∧ g 33 = .pointer none) ∧ Mem66 w' pm pb ∧ pm ≠ bm ∧ pb ≠ bm ∧ w.heap.size ≤ bm ∧ Below w.heap.size w w'
def macN (a1 : Option Addr) (cap1 k : Nat) : Value := (#[.int .i64 0, .int .i64 0, .int .i64 0, .int .i64 0, .int .i64 0, .int .i64 0, .int .i64 0, .int .i64 0, .int .i64 0, .int .i64 0, .int .i64 0, .int .i64 0, .int .i64 0, .int .i64 0, .int .i64 0, .int .i64 0, .int .i64 0, .int .i64 0, .int .i64 0, .int .i64 0, .int .i64 0, .int .i64 0, .int .i64 0, .int .i64 0, .int .i64 0, .int .i64 0, .int .i64 0, .int .i64 0, .pointer none, .slice none 0 0, .slice none 0 0, .pointer none, .int .i64 0, .pointer none, .bool false, .bool false, .int .i64 0, .slice a1 4 cap1, .int .i64 1] : Array Value).getD k undef
theorem macN_eq (a1 : Option Addr) (cap1 : Nat) : (#[.int .i64 0, .int .i64 0, .int .i64 0, .int .i64 0, .int .i64 0, .int .i64 0, .int .i64 0, .int .i64 0, .int .i64 0, .int .i64 0, .int .i64 0, .int .i64 0, .int .i64 0, .int .i64 0, .int .i64 0, .int .i64 0, .int .i64 0, .int .i64 0, .int .i64 0, .int .i64 0, .int .i64 0, .int .i64 0, .int .i64 0, .int .i64 0, .int .i64 0, .int .i64 0, .int .i64 0, .int .i64 0, .pointer none, .slice none 0 0, .slice none 0 0, .pointer none, .int .i64 0, .pointer none, .bool false, .bool false, .int .i64 0, .slice a1 4 cap1, .int .i64 1] : Array Value) = ((List.range 39).map (macN a1 cap1)).toArray := rfl
set_option maxRecDepth 100000 in
set_option maxHeartbeats 8000000 in
theorem newMachine_any (w : World) (ib : Nat) (hs : Src w (some ⟨ib, 0, none⟩) 4 [.int .u8 0, .int .u8 0, .int .u8 0, .int .u8 66]) :
    Calls Try.prog 7 #[.int .i64 1, .agg #[.int .i64 0, .slice (some ⟨ib, 0, none⟩) 4 4], .agg #[.pointer none, .int .i64 0, .pointer none]] w (NwP w) := by
  obtain ⟨i8, hi, hz0, hz1, hz2⟩ := info_parts Try.infoM8
  have Ji := Lib.hid hi
  have Jz0 := Lib.hid hz0
  have Jz1 := Lib.hid hz1
  have Jz2 := Lib.hid hz2
  clear hi hz0 hz1 hz2
  obtain ⟨W0, hW0⟩ : ∃ W0, ((w.alloc (.cells #[.int .i64 0, .slice (some ⟨ib, 0, none⟩) 4 4] 27)).alloc (.cells #[.pointer none, .int .i64 0, .pointer none] 31)) = W0 := ⟨_, rfl⟩
  have hbw : Below w.heap.size w W0 := by rw [← hW0]; exact ((Below.refl _ _).alloc (Nat.le_refl _) _).alloc (by simp) _
  have hS0 : W0.drew.cell? ⟨w.heap.size + 1, 0, none⟩ = some (.pointer none) ∧ W0.drew.cell? ⟨w.heap.size + 1, 1, none⟩ = some (.int .i64 0) ∧ W0.drew.cell? ⟨w.heap.size + 1, 2, none⟩ = some (.pointer none) ∧ W0.drew.cell? ⟨w.heap.size, 0, none⟩ = some (.int .i64 0) ∧ W0.drew.cell? ⟨w.heap.size, 1, none⟩ = some (.slice (some ⟨ib, 0, none⟩) 4 4) ∧ Below W0.heap.size W0 W0.drew := by
    rw [← hW0]
    exact ⟨by simp, by simp, by simp, by simp, by simp, (Below.refl _ _).drew⟩
  have HSS := Lib.hid hS0
  have SR := Lib.hid (hs.below hbw)
  have HW0 := Lib.hid hW0
  have HBW := Lib.hid hbw
  clear hs hW0 hbw hS0
  go_enter Try.func7, Try.ntmps7
  go_upto_region 1 with fail
  rw [HW0.out]
  go_region_held3 (fun w' => w'.cell? ⟨w.heap.size + 1, 0, none⟩ = some (.pointer none) ∧ w'.cell? ⟨w.heap.size + 1, 1, none⟩ = some (.int .i64 0) ∧ w'.cell? ⟨w.heap.size + 1, 2, none⟩ = some (.pointer none) ∧ w'.cell? ⟨w.heap.size, 0, none⟩ = some (.int .i64 0) ∧ w'.cell? ⟨w.heap.size, 1, none⟩ = some (.slice (some ⟨ib, 0, none⟩) 4 4) ∧ Below W0.heap.size W0 w') (first | (with_reducible exact HSS.out) | (with_reducible assumption) | (with_reducible exact keepN (by assumption) (by assumption)) | (with_reducible exact keepNA (by assumption) _))
    (first | (refine step_append_mine _ (by rfl) (.const (.slice none 0 0)) (.tmp 13) 25 (by rfl) 5 i8 (.int .u8 0) 1 Try.underlying25 Ji.out Jz0.out Jz1.out Jz2.out rfl (fun _ => 1) 0 _ (.slice none 0 0) [] 0 rfl (by rfl) (Own.nil _ _ _ _) (Nat.le_refl _) (some ⟨ib, 0, none⟩) 4 4 [.int .u8 0, .int .u8 0, .int .u8 0, .int .u8 66] (by rfl) (by exact SR.out) (by unfold maxLen; omega) (by omega) 4 (by rfl) ?_; intro a1 cap1 w1 c1 ho1 hst1; have hb1 := stp_all hst1; have Ho1 := Lib.hid ho1; have HB1 := Lib.hid hb1; clear ho1 hst1))
  go_wp2_with fail
  have hsrc := own_src Ho1.out (by intro u hu; simp at hu; rcases hu with rfl | rfl <;> rfl)
  rw [List.nil_append] at hsrc
  obtain ⟨ad, hA⟩ : ∃ ad, a1 = some ad := by
    rcases a1 with _ | ad
    · exact absurd rfl (hsrc.2.2.1 (by omega))
    · exact ⟨ad, rfl⟩
  subst hA
  have hbl : ad.block < w1.heap.size := by
    have h0 := World.block_lt_of_cell? _ _ (hsrc.2.2.2 ad rfl 0 (.int .u8 0) rfl)
    have : (ad.add 0).block = ad.block := by unfold Addr.add; split <;> rfl
    omega
  obtain ⟨W2, hW2⟩ : ∃ W2, (w1.alloc (.cells #[.int .i64 0, .int .i64 0, .int .i64 0, .int .i64 0, .int .i64 0, .int .i64 0, .int .i64 0, .int .i64 0, .int .i64 0, .int .i64 0, .int .i64 0, .int .i64 0, .int .i64 0, .int .i64 0, .int .i64 0, .int .i64 0, .int .i64 0, .int .i64 0, .int .i64 0, .int .i64 0, .int .i64 0, .int .i64 0, .int .i64 0, .int .i64 0, .int .i64 0, .int .i64 0, .int .i64 0, .int .i64 0, .pointer none, .slice none 0 0, .slice none 0 0, .pointer none, .int .i64 0, .pointer none, .bool false, .bool false, .int .i64 0, .slice (some ad) 4 cap1, .int .i64 1] 38)) = W2 := ⟨_, rfl⟩
  have hk : Blk W2 w1.heap.size 38 39 (macN (some ad) cap1) := by rw [← hW2]; exact Blk.new _ _ _ _ _ (macN_eq (some ad) cap1)
  have hb2 : Below w1.heap.size w1 W2 := by rw [← hW2]; exact (Below.refl _ _).alloc (Nat.le_refl _) _
  have HX1 := Lib.hid (HBW.out.trans ((undrw HB1.out).mono HBW.out.size))
  have HX2 := Lib.hid (HX1.out.trans (hb2.mono HX1.out.size))
  have hz : w.heap.size ≤ w1.heap.size := HX1.out.size
  rw [hW2]
  refine (begin_any _ w.heap.size w1.heap.size (macN (some ad) cap1) ad cap1 hk rfl rfl rfl (hsrc.below hb2) (by omega) hz HX2.out.size).mono ?_
  rintro e w3 ⟨rfl, pm, pb, g, q1, q2, q3, q4, q5, q6, q7, q8, q9, q10, q11, q12, q13⟩
  have HF : Hid (NwP w (.returned (.pointer (some ⟨w1.heap.size, 0, none⟩))) w3) := Lib.hid ⟨w1.heap.size, pm, pb, g, rfl, q1, q2, q3, q4, q5, q6, q7, q8, q9, q10, q11, q12, hz, HX2.out.trans q13⟩
  clear q1 q2 q3 q4 q5 q6 q7 q8 q9 q10 q11 q12 q13 hk hb2 hsrc hbl
  go_wp2_with fail
  go_ret
  exact HF.out
end Go.Proofs.Ytdnmjhkgibaadaa
