/- trunnionref1.NewMemory of nothing, and Of: a machine's registers of a state: contracts. -/
import Derived.Test.YtdnmjhkgibaadaaSame
import Derived.Test.YtdnmjhkgibaadaaApp
import Derived.Test.YtdnmjhkgibaadaaBlk
import Derived.Test.YtdnmjhkgibaadaaWord
import Derived.Deep.RegionHeld3
import Derived.Deep.DeepCutAuto
import Derived.Deep.DrawnRows
namespace Go.Proofs.Ytdnmjhkgibaadaa
open Go.RowKit
attribute [local go_sem ↓] Go.wp_at_zero Go.wp_at_succ

/-- A pointer to a new block. -/
def PtrP (w : World) (e : Ending) (w' : World) : Prop := ∃ b, e = .returned (.pointer (some ⟨b, 0, none⟩)) ∧ w.heap.size ≤ b ∧ Below w.heap.size w w'
theorem Try.infoM8 : (Try.prog.info? 5).map (fun i => (i.zero, i.size, i.bytes)) = some (some (.int .u8 0), 1, 1) := by kernel_rfl
set_option maxRecDepth 100000 in
theorem newMem0 (w : World) : Calls Try.prog 27 #[.int .i64 0] w (PtrP w) := by
  obtain ⟨i8, hi, hz0, hz1, hz2⟩ := info_parts Try.infoM8
  have Ji := Lib.hid hi
  have Jz0 := Lib.hid hz0
  have Jz1 := Lib.hid hz1
  have Jz2 := Lib.hid hz2
  clear hi hz0 hz1 hz2
  go_enter Try.func27, Try.ntmps27
  go_wp2_with (at_make; go_must (refine wpList_make_full _ rfl (.tmp 8) (.tmp 8) 25 rfl w.heap.size 5 i8 (.int .u8 0) 1 Try.underlying25 Ji.out Jz0.out Jz1.out .i64 .i64 0 0 0 rfl rfl rfl rfl (by rw [Jz2.out]; omega) (by unfold maxLen; omega) (Nat.le_refl _) ?_; intro w1 hown hgr; have HB := Lib.hid ((Below.refl w.heap.size w).grown hgr (Nat.le_refl _) (by simp)); clear hown hgr))
  go_ret
  exact ⟨_, rfl, HB.out.size, HB.out.alloc HB.out.size _⟩
/-- A new machine's cells. -/
def mac0 (p k : Nat) : Value := (#[.int .i64 0, .int .i64 0, .int .i64 0, .int .i64 0, .int .i64 0, .int .i64 0, .int .i64 0, .int .i64 0, .int .i64 0, .int .i64 0, .int .i64 0, .int .i64 0, .int .i64 0, .int .i64 0, .int .i64 0, .int .i64 0, .int .i64 0, .int .i64 0, .int .i64 0, .int .i64 0, .int .i64 0, .int .i64 0, .int .i64 0, .int .i64 0, .int .i64 0, .int .i64 0, .int .i64 0, .int .i64 0, .pointer (some ⟨p, 0, none⟩), .slice none 0 0, .slice none 0 0, .pointer none, .int .i64 0, .pointer none, .bool false, .bool false, .int .i64 0, .slice none 0 0, .int .i64 0] : Array Value).getD k undef
theorem mac0_eq (p : Nat) : (#[.int .i64 0, .int .i64 0, .int .i64 0, .int .i64 0, .int .i64 0, .int .i64 0, .int .i64 0, .int .i64 0, .int .i64 0, .int .i64 0, .int .i64 0, .int .i64 0, .int .i64 0, .int .i64 0, .int .i64 0, .int .i64 0, .int .i64 0, .int .i64 0, .int .i64 0, .int .i64 0, .int .i64 0, .int .i64 0, .int .i64 0, .int .i64 0, .int .i64 0, .int .i64 0, .int .i64 0, .int .i64 0, .pointer (some ⟨p, 0, none⟩), .slice none 0 0, .slice none 0 0, .pointer none, .int .i64 0, .pointer none, .bool false, .bool false, .int .i64 0, .slice none 0 0, .int .i64 0] : Array Value) = ((List.range 39).map (mac0 p)).toArray := rfl
theorem mac0_c (p k : Nat) (h : k < 11) : mac0 p (17 + k) = .int .i64 0 := by
  rcases (show k = 0 ∨ k = 1 ∨ k = 2 ∨ k = 3 ∨ k = 4 ∨ k = 5 ∨ k = 6 ∨ k = 7 ∨ k = 8 ∨ k = 9 ∨ k = 10 by omega) with rfl | rfl | rfl | rfl | rfl | rfl | rfl | rfl | rfl | rfl | rfl <;> rfl
/-- What Of leaves. -/
def OfP (w : World) (pc : Int) (fc : Nat → Int) (nc : Nat) (e : Ending) (w' : World) : Prop :=
  ∃ b, e = .returned (.pointer (some ⟨b, 0, none⟩)) ∧ w.heap.size ≤ b ∧ w'.cell? ⟨b, 16, none⟩ = some (.int .i64 (W pc)) ∧ (∀ k, k < 11 → w'.cell? ⟨b, 17 + k, none⟩ = some (.int .i64 (cv fc nc k))) ∧ Below w.heap.size w w'
def RelR (w : World) (bm : Nat) (v0 v1 v2 v3 v4 v5 : Value) (i : Value) (wr : World) : Prop :=
  ∃ k : Nat, 1 ≤ k ∧ k ≤ 16 ∧ i = .int .i64 k ∧ ∃ g, Blk wr bm 38 39 g ∧ (∀ j, j < 11 → g (17 + j) = .int .i64 0) ∧ Box wr w.heap.size 43 v0 v1 v2 v3 v4 v5 ∧ Below w.heap.size w wr
def RelC (w : World) (bm : Nat) (v0 v1 v2 v3 v4 v5 : Value) (fc : Nat → Int) (nc : Nat) (i : Value) (wr : World) : Prop :=
  ∃ k : Nat, k ≤ 11 ∧ k ≤ nc ∧ i = .int .i64 k ∧ ∃ g, Blk wr bm 38 39 g ∧ (∀ j, j < 11 → g (17 + j) = .int .i64 (if j < k then W (fc j) else 0)) ∧ Box wr w.heap.size 43 v0 v1 v2 v3 v4 v5 ∧ Below w.heap.size w wr
set_option maxRecDepth 100000 in
set_option maxHeartbeats 4000000 in
theorem ofm_any (w : World) (Ar Ac Ao : Option Addr) (nr cr nc cc no co : Nat) (pc : Int) (hl st : Bool) (fr fc : Nat → Int) (bo : List Int)
    (hr : IntsAt w Ar nr fr) (_hnr : nr ≤ 100000) (hc : IntsAt w Ac nc fc) (hnc : nc ≤ 100000) (ho : Src w Ao no (bys bo)) (hno : no ≤ 100000) :
    Calls Try.prog 12 #[.agg #[.slice Ar nr cr, .int .i64 pc, .slice Ac nc cc, .bool hl, .bool st, .slice Ao no co]] w (OfP w pc fc nc) := by
  obtain ⟨i8, hi, hz0, hz1, hz2⟩ := info_parts Try.infoM8
  have Ji := Lib.hid hi
  have Jz0 := Lib.hid hz0
  have Jz1 := Lib.hid hz1
  have Jz2 := Lib.hid hz2
  clear hi hz0 hz1 hz2
  have HR := Lib.hid hr
  have HC := Lib.hid hc
  have HO := Lib.hid ho
  clear hr hc ho
  obtain ⟨W0, hW0⟩ : ∃ W0, (w.alloc (Obj.cells #[.slice Ar nr cr, .int .i64 pc, .slice Ac nc cc, .bool hl, .bool st, .slice Ao no co] 43)) = W0 := ⟨_, rfl⟩
  have b0 : Box W0 w.heap.size 43 (.slice Ar nr cr) (.int .i64 pc) (.slice Ac nc cc) (.bool hl) (.bool st) (.slice Ao no co) := by rw [← hW0]; exact Box.new _ _ _ _ _ _ _ _
  have hbw : Below w.heap.size w W0 := by rw [← hW0]; exact (Below.refl _ _).alloc (Nat.le_refl _) _
  have HW0 := Lib.hid hW0
  have HB0 := Lib.hid b0
  have HBW := Lib.hid hbw
  clear hW0 b0 hbw
  go_enter Try.func12, Try.ntmps12
  go_wp2_with fail
  rw [HW0.out]
  refine (newMem0 _).mono ?_
  rintro e w1 ⟨p, rfl, hp, hb1⟩
  have HE1 := Lib.hid hb1
  clear hb1 hp
  go_wp2_with fail
  obtain ⟨W1, hW1⟩ : ∃ W1, (w1.alloc (Obj.cells #[.int .i64 0, .int .i64 0, .int .i64 0, .int .i64 0, .int .i64 0, .int .i64 0, .int .i64 0, .int .i64 0, .int .i64 0, .int .i64 0, .int .i64 0, .int .i64 0, .int .i64 0, .int .i64 0, .int .i64 0, .int .i64 0, .int .i64 0, .int .i64 0, .int .i64 0, .int .i64 0, .int .i64 0, .int .i64 0, .int .i64 0, .int .i64 0, .int .i64 0, .int .i64 0, .int .i64 0, .int .i64 0, .pointer (some ⟨p, 0, none⟩), .slice none 0 0, .slice none 0 0, .pointer none, .int .i64 0, .pointer none, .bool false, .bool false, .int .i64 0, .slice none 0 0, .int .i64 0] 38)) = W1 := ⟨_, rfl⟩
  rw [hW1]
  have k1 : Blk W1 w1.heap.size 38 39 (mac0 p) := by rw [← hW1]; exact Blk.new _ _ _ _ _ (mac0_eq p)
  have b1 : Box W1 w.heap.size 43 (.slice Ar nr cr) (.int .i64 pc) (.slice Ac nc cc) (.bool hl) (.bool st) (.slice Ao no co) := by rw [← hW1]; exact (HB0.out.below HE1.out HB0.out.lt).alloc _
  have hb : Below w.heap.size w W1 := by rw [← hW1]; exact (HBW.out.trans (HE1.out.mono HBW.out.size)).alloc (Nat.le_trans HBW.out.size HE1.out.size) _
  have hlt : w.heap.size < w1.heap.size := Nat.lt_of_lt_of_le HB0.out.lt HE1.out.size
  have HK1 := Lib.hid k1
  have HB1 := Lib.hid b1
  have HBb := Lib.hid hb
  clear k1 b1 hb hW1 HW0 HB0 HBW HE1
  obtain ⟨bm, hbm⟩ : ∃ bm, w1.heap.size = bm := ⟨_, rfl⟩
  rw [hbm]
  rw [hbm] at HK1 hlt
  clear hbm
  have n1 : bm ≠ w.heap.size := by omega
  have n2 : w.heap.size ≠ bm := by omega
  go_loopw [4] (RelR w bm (.slice Ar nr cr) (.int .i64 pc) (.slice Ac nc cc) (.bool hl) (.bool st) (.slice Ao no co)) (fun i _ => 16 - (intOf i).toNat)
  case atStart => exact ⟨1, by omega, by omega, rfl, mac0 p, HK1.out, mac0_c p, HB1.out, HBb.out⟩
  case round =>
    obtain ⟨k, hk1, hk2, rfl, g, hK, hg, hB, hBl⟩ := hrel
    obtain ⟨g0, g1, g2, g3, g4, g5, _⟩ := hB.cells
    by_cases hlt1 : k < 16 ∧ k < nr
    · obtain ⟨h16, hnk⟩ := hlt1
      obtain ⟨b, off, hA, hcell⟩ := HR.out.below hBl k hnk
      have hbl : b < w.heap.size := by
        obtain ⟨b', off', e', hc'⟩ := HR.out k hnk
        rw [hA] at e'
        injection e' with e'
        injection e' with e1 e2
        subst e1 e2
        exact World.block_lt_of_cell? _ _ hc'
      subst hA
      have n3 : bm ≠ b := by omega
      have n4 : b ≠ bm := by omega
      have i1 : (0 : Int) ≤ (k : Int) := by omega
      have i2 : (k : Int) < (nr : Int) := by omega
      have i3 : (k : Int) < 16 := by omega
      have x1 := hK.cell (k := k) (by omega)
      have x2 := hK.frozen k
      have HK := Lib.hid hK
      have Hg := Lib.hid hg
      have HBx := Lib.hid hB
      have HBl := Lib.hid hBl
      clear hK hg hB hBl
      go_wp2
      go_region_held3 (fun w' => w'.cell? ⟨w.heap.size, 0, none⟩ = some (.slice (some ⟨b, off, none⟩) nr cr) ∧ w'.cell? ⟨b, off + k, none⟩ = some (.int .i64 (fr k))) (first | go_keep | assumption) (first | (go_at_call 19; refine (refW_any _ _).mono ?_; rintro e w' ⟨rfl, rfl⟩))
      go_wp2
      go_roundw
      case rel =>
        refine ⟨k + 1, by omega, by omega, by go_num, _, (HK.out.put k (.int .i64 (W (fr k)))), fun j hj => ?_, HBx.out.far (p := ⟨bm, k, none⟩) n2 _, (HBl.out.setCell (p := ⟨bm, k, none⟩) (show w.heap.size ≤ bm by omega) _).drew⟩
        rw [if_neg (by omega)]; exact Hg.out j hj
      case measure => simp [intOf]; omega
    · have hx : 16 ≤ k ∨ (k < 16 ∧ nr ≤ k) := by omega
      have HK := Lib.hid hK
      have Hg := Lib.hid hg
      have HBx := Lib.hid hB
      have HBl := Lib.hid hBl
      clear hK hg hB hBl hlt1
      rcases hx with hx | ⟨hx, hy⟩
      all_goals
        (try (have dz : decide (k < nr) = false := by simp; omega))
        go_wp2
        clear g0 g1 g2 g3 g4 g5
        go_loopw [5] (RelC w bm (.slice Ar nr cr) (.int .i64 pc) (.slice Ac nc cc) (.bool hl) (.bool st) (.slice Ao no co) fc nc) (fun i _ => 11 - (intOf i).toNat)
        case atStart => exact ⟨0, by omega, by omega, rfl, g, HK.out, fun j hj => by rw [if_neg (by omega)]; exact Hg.out j hj, HBx.out, HBl.out⟩
        case round =>
          clear HK Hg HBx HBl
          obtain ⟨q, hq1, hq2, rfl, f, hK, hg, hB, hBl⟩ := hrel
          obtain ⟨g0, g1, g2, g3, g4, g5, _⟩ := hB.cells
          by_cases hlt2 : q < 11 ∧ q < nc
          · obtain ⟨h11, hnq⟩ := hlt2
            obtain ⟨b, off, hA, hcell⟩ := HC.out.below hBl q hnq
            have hbl : b < w.heap.size := by
              obtain ⟨b', off', e', hc'⟩ := HC.out q hnq
              rw [hA] at e'
              injection e' with e'
              injection e' with e1 e2
              subst e1 e2
              exact World.block_lt_of_cell? _ _ hc'
            subst hA
            have n3 : bm ≠ b := by omega
            have n4 : b ≠ bm := by omega
            have i1 : (0 : Int) ≤ (q : Int) := by omega
            have i2 : (q : Int) < (nc : Int) := by omega
            have i3 : (q : Int) < 11 := by omega
            have x1 := hK.cell (k := 17 + q) (by omega)
            have x2 := hK.frozen (17 + q)
            have HK := Lib.hid hK
            have Hg := Lib.hid hg
            have HBx := Lib.hid hB
            have HBl := Lib.hid hBl
            clear hK hg hB hBl
            go_wp2
            go_region_held3 (fun w' => w'.cell? ⟨w.heap.size, 2, none⟩ = some (.slice (some ⟨b, off, none⟩) nc cc) ∧ w'.cell? ⟨b, off + q, none⟩ = some (.int .i64 (fc q))) (first | go_keep | assumption) (first | (go_at_call 19; refine (refW_any _ _).mono ?_; rintro e w' ⟨rfl, rfl⟩))
            go_wp2
            go_roundw
            case rel =>
              have hnew : RelC w bm (.slice Ar nr cr) (.int .i64 pc) (.slice (some ⟨b, off, none⟩) nc cc) (.bool hl) (.bool st) (.slice Ao no co) fc nc (.int .i64 ((q : Int) + 1)) ((wr.setCell ⟨bm, 17 + q, none⟩ (.int .i64 (W (fc q)))).drew) := by
                refine ⟨q + 1, by omega, by omega, by go_num, _, (HK.out.put (17 + q) (.int .i64 (W (fc q)))), fun j hj => ?_, HBx.out.far (p := ⟨bm, 17 + q, none⟩) n2 _, (HBl.out.setCell (p := ⟨bm, 17 + q, none⟩) (show w.heap.size ≤ bm by omega) _).drew⟩
                by_cases hjq : j = q
                · subst hjq; rw [if_pos rfl, if_pos (by omega)]
                · rw [if_neg (by omega), Hg.out j hj]
                  by_cases hjl : j < q
                  · rw [if_pos hjl, if_pos (by omega)]
                  · rw [if_neg hjl, if_neg (by omega)]
              first | exact hnew | ((repeat apply Exists.intro); exact ⟨hnew, rfl⟩)
            case measure => simp [intOf]; omega
          · have hx : 11 ≤ q ∨ (q < 11 ∧ nc ≤ q) := by omega
            have x16 := hK.cell (k := 16) (by omega)
            have x34 := hK.cell (k := 34) (by omega)
            have x35 := hK.cell (k := 35) (by omega)
            have f16 := hK.frozen 16
            have f34 := hK.frozen 34
            have f35 := hK.frozen 35
            have HK := Lib.hid hK
            have Hg := Lib.hid hg
            have HBx := Lib.hid hB
            have HBl := Lib.hid hBl
            have HLe : Hid (w.heap.size ≤ bm) := Lib.hid (by omega)
            clear hK hg hB hBl hlt2
            rcases hx with hx | ⟨hx, hy⟩
            all_goals
              (try (have dz2 : decide (q < nc) = false := by simp; omega))
              go_wp2_with (first | (go_at_call 19; refine (refW_any _ _).mono ?_; rintro e w' ⟨rfl, rfl⟩) | (at_builtin; go_must (refine wpList_append_mine _ rfl (.const (.slice none 0 0)) (.tmp 71) 25 rfl 5 i8 (.int .u8 0) 1 Try.underlying25 Ji.out Jz0.out Jz1.out Jz2.out rfl (fun _ => 1) 0 w.heap.size (.slice none 0 0) [] 0 rfl rfl (Own.nil _ _ _ _) (by exact (((HBl.out.setCell (p := ⟨bm, 16, none⟩) HLe.out _).setCell (p := ⟨bm, 34, none⟩) HLe.out _).setCell (p := ⟨bm, 35, none⟩) HLe.out _).size) Ao no co (bys bo) rfl (by exact HO.out.below (((HBl.out.setCell (p := ⟨bm, 16, none⟩) HLe.out _).setCell (p := ⟨bm, 34, none⟩) HLe.out _).setCell (p := ⟨bm, 35, none⟩) HLe.out _)) (by unfold maxLen; omega) (by omega) ?_; intro a' cap' w5 c' ho5 hst5; have hb5 := stp_all hst5; have hK4 := ((HK.out.put 16 (.int .i64 (W pc))).put 34 (.bool hl)).put 35 (.bool st); have hK5 := hK4.below hb5 hK4.lt; have x30 := hK5.cell (k := 30) (by omega); have f30 := hK5.frozen 30; have HK5 := Lib.hid hK5; have HB5 := Lib.hid ((((HBl.out.setCell (p := ⟨bm, 16, none⟩) HLe.out (.int .i64 (W pc))).setCell (p := ⟨bm, 34, none⟩) HLe.out (.bool hl)).setCell (p := ⟨bm, 35, none⟩) HLe.out (.bool st)).trans (hb5.mono (((HBl.out.setCell (p := ⟨bm, 16, none⟩) HLe.out (.int .i64 (W pc))).setCell (p := ⟨bm, 34, none⟩) HLe.out (.bool hl)).setCell (p := ⟨bm, 35, none⟩) HLe.out (.bool st)).size)); clear ho5 hst5 hb5 hK4 hK5)))
              go_ret
              have hKf := HK5.out.put 30 (.slice a' (0 + no) cap')
              rw [Nat.zero_add] at hKf
              refine ⟨bm, rfl, HLe.out, hKf.cell (k := 16) (by omega), fun j hj => ?_, HB5.out.setCell (p := ⟨bm, 30, none⟩) HLe.out _⟩
              rw [hKf.cell (k := 17 + j) (by omega), if_neg (by omega), if_neg (by omega), if_neg (by omega), if_neg (by omega), Hg.out j hj]
              unfold cv
              by_cases hjq : j < q
              · rw [if_pos hjq, if_pos (by omega)]
              · rw [if_neg hjq, if_neg (by omega)]
end Go.Proofs.Ytdnmjhkgibaadaa
