/- trunnionref14.Sleep of a state: the same as virq.Sleep. -/
import Derived.Test.YtdnmjhkgibaadaaVirq
import Derived.Test.YtdnmjhkgibaadaaOfm
namespace Go.Proofs.Ytdnmjhkgibaadaa
open Go.RowKit

theorem quiet_left {P : Program} {f : FuncId} {args : Array Value} {w : World} {n : Nat} {v : Value}
    (h : Calls P f args (w.drewN n) fun e w' => e = .returned v ∧ w.drewN n = w') : Calls P f args (w.drewN n) fun e w'' => e = .returned v ∧ ∃ m, w'' = w.drewN m :=
  h.mono fun _ _ ⟨he, hm⟩ => ⟨he, n, hm.symm⟩
theorem below_drewN' {B : Nat} {w w' : World} (h : Below B w w') (n : Nat) : Below B w (w'.drewN n) := ⟨h.os, h.tape, h.output, h.size, h.block⟩
theorem and_zero_odd (p i : Int) (h : bits .and .i64 p i = 0) (hi : i % 2 = 1) : p % 2 = 0 := by
  rw [and64, IntKind.wrap_i64] at h
  have hlt : U p &&& U i < 18446744073709551616 := Nat.lt_of_le_of_lt Nat.and_le_left (U_lt p)
  have h0 : U p &&& U i = 0 := by omega
  have hb : (U p &&& U i).testBit 0 = false := by rw [h0]; rfl
  rw [Nat.testBit_and, Nat.testBit_zero, Nat.testBit_zero] at hb
  have hp := U_cast p
  have hq := U_cast i
  simp at hb
  omega
theorem slp_last (f : Nat → Int) (nc : Nat) (wt ms : Int) (k1 : (bits .and .i64 (pendI (cv f nc 7) (cv f nc 8) wt ms) (cv f nc 10) != 0) = false) (k3 : (cv f nc 10 % 2 == 0) = false) (k4 : (cv f nc 8 == 0) = false) : W (cv f nc 8 - cv f nc 7) = cv f nc 8 - cv f nc 7 := by
  have h7 := cv_bd f nc 7
  have h8 := cv_bd f nc 8
  have e1 : bits .and .i64 (pendI (cv f nc 7) (cv f nc 8) wt ms) (cv f nc 10) = 0 := by simpa using k1
  have e3 : cv f nc 10 % 2 = 1 := by
    have : ¬ cv f nc 10 % 2 = 0 := by simpa using k3
    omega
  have e4 : cv f nc 8 ≠ 0 := by simpa using k4
  have hp := and_zero_odd _ _ e1 e3
  have w8 : W (cv f nc 8) = cv f nc 8 := W_of _ h8
  have w7 : W (cv f nc 7) = cv f nc 7 := W_of _ h7
  unfold pendI at hp
  rw [w8, w7] at hp
  have hlt : cv f nc 7 < cv f nc 8 := by
    by_cases hc : cv f nc 8 ≤ cv f nc 7
    · exfalso
      rw [if_pos ⟨e4, hc⟩] at hp
      revert hp
      split <;> split <;> omega
    · omega
  exact W_of _ (by omega)
theorem slp_ref (f : Nat → Int) (nc : Nat) (wt ms : Int) :
    ((bits .and .i64 (pendI (cv f nc 7) (cv f nc 8) wt ms) (cv f nc 10) != 0) = true ∧ slp f nc wt ms = (0, true)) ∨
    ((bits .and .i64 (pendI (cv f nc 7) (cv f nc 8) wt ms) (cv f nc 10) != 0) = false ∧ (bits .and .i64 (cv f nc 0) 4 == 0) = true ∧ slp f nc wt ms = (0, true)) ∨
    ((bits .and .i64 (pendI (cv f nc 7) (cv f nc 8) wt ms) (cv f nc 10) != 0) = false ∧ (bits .and .i64 (cv f nc 0) 4 == 0) = false ∧ (cv f nc 8 == 0) = true ∧ slp f nc wt ms = (0, false)) ∨
    ((bits .and .i64 (pendI (cv f nc 7) (cv f nc 8) wt ms) (cv f nc 10) != 0) = false ∧ (bits .and .i64 (cv f nc 0) 4 == 0) = false ∧ (cv f nc 8 == 0) = false ∧ (bits .and .i64 (cv f nc 10) 1 == 0) = true ∧ slp f nc wt ms = (0, false)) ∨
    ((bits .and .i64 (pendI (cv f nc 7) (cv f nc 8) wt ms) (cv f nc 10) != 0) = false ∧ (bits .and .i64 (cv f nc 0) 4 == 0) = false ∧ (cv f nc 8 == 0) = false ∧ (bits .and .i64 (cv f nc 10) 1 == 0) = false ∧ slp f nc wt ms = (cv f nc 8 - cv f nc 7, true)) := by
  have j2 : (bits .and .i64 (cv f nc 0) 4 == 0) = (cv f nc 0 / 4 % 2 == 0) := by rw [and_4, Bool.eq_iff_iff]; simp; omega
  have j3 : (bits .and .i64 (cv f nc 10) 1 == 0) = (cv f nc 10 % 2 == 0) := by rw [and_1]
  rw [j2, j3]
  rcases slp_cases f nc wt ms with h | h | ⟨k1, k2, k3, e⟩ | ⟨k1, k2, _, k4, e⟩ | ⟨k1, k2, k3, k4, e⟩
  · exact .inl h
  · exact .inr (.inl h)
  · cases k4 : (cv f nc 8 == 0)
    · exact .inr (.inr (.inr (.inl ⟨k1, k2, rfl, k3, e⟩)))
    · exact .inr (.inr (.inl ⟨k1, k2, rfl, e⟩))
  · exact .inr (.inr (.inl ⟨k1, k2, k4, e⟩))
  · exact .inr (.inr (.inr (.inr ⟨k1, k2, k4, k3, by rw [e, slp_last f nc wt ms k1 k3 k4]⟩)))
set_option maxRecDepth 100000 in
set_option maxHeartbeats 4000000 in
theorem refSleep_any (w : World) (Ar Ac Ao : Option Addr) (nr cr nc cc no co : Nat) (pc : Int) (hl st : Bool) (fr fc : Nat → Int) (bo : List Int) (wt ms : Int)
    (hr : IntsAt w Ar nr fr) (hnr : nr ≤ 100000) (hc : IntsAt w Ac nc fc) (hnc : nc ≤ 100000) (ho : Src w Ao no (bys bo)) (hno : no ≤ 100000) :
    Calls Try.prog 14 #[.agg #[.slice Ar nr cr, .int .i64 pc, .slice Ac nc cc, .bool hl, .bool st, .slice Ao no co], .int .i64 wt, .int .i64 ms] w fun e w' => e = .returned (.tuple #[.int .i64 (slp fc nc wt ms).1, .bool (slp fc nc wt ms).2]) ∧ Below w.heap.size w w' := by
  have h7 := cv_bd fc nc 7
  have h8 := cv_bd fc nc 8
  have HR := Lib.hid hr
  have HC := Lib.hid hc
  have HO := Lib.hid ho
  clear hr hc ho
  obtain ⟨W0, hW0⟩ : ∃ W0, (w.alloc (Obj.cells #[.slice Ar nr cr, .int .i64 pc, .slice Ac nc cc, .bool hl, .bool st, .slice Ao no co] 43)) = W0 := ⟨_, rfl⟩
  have hbw : Below w.heap.size w W0 := by rw [← hW0]; exact (Below.refl _ _).alloc (Nat.le_refl _) _
  have HW0 := Lib.hid hW0
  have HBW := Lib.hid hbw
  clear hW0 hbw
  rcases slp_ref fc nc wt ms with ⟨k1, e⟩ | ⟨k1, k2, e⟩ | ⟨k1, k2, k3, e⟩ | ⟨k1, k2, k3, k4, e⟩ | ⟨k1, k2, k3, k4, e⟩
  all_goals
    rw [e]; clear e
    go_enter Try.func14, Try.ntmps14
    go_wp2_with fail
    rw [HW0.out]
    refine (ofm_any _ _ _ _ _ _ _ _ _ _ _ _ _ fr fc bo (HR.out.below HBW.out) hnr (HC.out.below HBW.out) hnc (HO.out.below HBW.out) hno).mono ?_
    rintro e w1 ⟨bm, rfl, hbm, hx16, hxc, hb1⟩
    have x0 : w1.cell? ⟨bm, 17, none⟩ = some (.int .i64 (cv fc nc 0)) := hxc 0 (by omega)
    have x7 : w1.cell? ⟨bm, 24, none⟩ = some (.int .i64 (cv fc nc 7)) := hxc 7 (by omega)
    have x8 : w1.cell? ⟨bm, 25, none⟩ = some (.int .i64 (cv fc nc 8)) := hxc 8 (by omega)
    have x10 : w1.cell? ⟨bm, 27, none⟩ = some (.int .i64 (cv fc nc 10)) := hxc 10 (by omega)
    have HN := Lib.hid (HBW.out.trans (hb1.mono HBW.out.size))
    clear hxc hx16 hb1 hbm
    go_wp2_with fail
    go_quiet ((go_at_call 17; exact quiet_left (refPending_any _ _ _ _ _)))
    go_wp2_with fail
    (try (go_quiet (fail); go_wp2_with fail))
    go_ret2
    first | exact ⟨rfl, below_drewN' HN.out _⟩ | exact ⟨rfl, below_drewN' (below_drewN' HN.out _) _⟩
end Go.Proofs.Ytdnmjhkgibaadaa
