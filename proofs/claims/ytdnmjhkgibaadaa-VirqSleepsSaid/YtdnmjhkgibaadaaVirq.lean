/- What package virq computes of a state in memory: contracts. Condition: the control registers read as a function (IntsAt). -/
import Derived.Test.YtdnmjhkgibaadaaIrq
import Derived.Test.YtdnmjhkgibaadaaState
import Derived.Test.YtdnmjhkgibaadaaClone
import Derived.Deep.RegionHeld3
import Derived.Outline
namespace Go.Proofs.Ytdnmjhkgibaadaa
open Go.RowKit

theorem keep8 {w W w' : World} {vr vo : Value} {pc : Int} {A : Option Addr} {nc cap : Nat} {h st : Bool} {f : Nat → Int} (hS : W.cell? ⟨w.heap.size, 0, none⟩ = some vr ∧ W.cell? ⟨w.heap.size, 1, none⟩ = some (.int .i64 pc) ∧ W.cell? ⟨w.heap.size, 2, none⟩ = some (.slice A nc cap) ∧ W.cell? ⟨w.heap.size, 3, none⟩ = some (.bool h) ∧ W.cell? ⟨w.heap.size, 4, none⟩ = some (.bool st) ∧ W.cell? ⟨w.heap.size, 5, none⟩ = some vo ∧ IntsAt W A nc f ∧ Below w.heap.size w W) (hb : Below W.heap.size W w') : w'.cell? ⟨w.heap.size, 0, none⟩ = some vr ∧ w'.cell? ⟨w.heap.size, 1, none⟩ = some (.int .i64 pc) ∧ w'.cell? ⟨w.heap.size, 2, none⟩ = some (.slice A nc cap) ∧ w'.cell? ⟨w.heap.size, 3, none⟩ = some (.bool h) ∧ w'.cell? ⟨w.heap.size, 4, none⟩ = some (.bool st) ∧ w'.cell? ⟨w.heap.size, 5, none⟩ = some vo ∧ IntsAt w' A nc f ∧ Below w.heap.size w w' := by
  obtain ⟨h0, h1, h2, h3, h4, h5, h6, h7⟩ := hS
  have hc := cell_below hb
  exact ⟨hc _ _ h0, hc _ _ h1, hc _ _ h2, hc _ _ h3, hc _ _ h4, hc _ _ h5, h6.below hb, h7.trans (hb.mono h7.size)⟩
theorem pick8 {w W : World} {vr vo : Value} {pc : Int} {A : Option Addr} {nc cap : Nat} {h st : Bool} {f : Nat → Int} (hS : W.cell? ⟨w.heap.size, 0, none⟩ = some vr ∧ W.cell? ⟨w.heap.size, 1, none⟩ = some (.int .i64 pc) ∧ W.cell? ⟨w.heap.size, 2, none⟩ = some (.slice A nc cap) ∧ W.cell? ⟨w.heap.size, 3, none⟩ = some (.bool h) ∧ W.cell? ⟨w.heap.size, 4, none⟩ = some (.bool st) ∧ W.cell? ⟨w.heap.size, 5, none⟩ = some vo ∧ IntsAt W A nc f ∧ Below w.heap.size w W) : IntsAt W A nc f ∧ Below w.heap.size w W := hS.2.2.2.2.2.2
set_option maxHeartbeats 1000000 in
theorem vof_any (w : World) (vr vo : Value) (pc : Int) (A : Option Addr) (nc cap : Nat) (h st : Bool) (f : Nat → Int) (z : Int) (hz : 0 ≤ z) (hc : IntsAt w A nc f) (_hn : nc ≤ 100000) :
    Calls Try.prog 22 #[.agg #[vr, .int .i64 pc, .slice A nc cap, .bool h, .bool st, vo], .int .i64 z] w fun e w' => e = .returned (.int .i64 (cv f nc z.toNat)) ∧ Below w.heap.size w w' := by
  obtain ⟨k, rfl⟩ := Int.eq_ofNat_of_zero_le hz
  rw [Int.toNat_natCast]
  by_cases hlt : k < nc
  · have e : cv f nc k = W (f k) := if_pos hlt
    rw [e]; clear e
    obtain ⟨b, off, rfl, hcell⟩ := hc k hlt
    have hb := World.block_lt_of_cell? _ _ hcell
    clear hc
    go_enter Try.func22, Try.ntmps22
    go_wp2_with (first | (go_at_call 33; refine (of_any _ _).mono ?_; rintro e w' ⟨rfl, rfl⟩))
    go_ret
    exact ⟨rfl, (Below.refl _ _).alloc (Nat.le_refl _) _⟩
  · have e : cv f nc k = 0 := if_neg hlt
    rw [e]; clear e hc
    go_enter Try.func22, Try.ntmps22
    go_wp2_with fail
    go_ret
    exact ⟨rfl, (Below.refl _ _).alloc (Nat.le_refl _) _⟩
set_option maxHeartbeats 1000000 in
theorem vpend_any (w : World) (vr vo : Value) (pc : Int) (A : Option Addr) (nc cap : Nat) (h st : Bool) (f : Nat → Int) (wt ms : Int) (hc : IntsAt w A nc f) (hn : nc ≤ 100000) :
    Calls Try.prog 15 #[.agg #[vr, .int .i64 pc, .slice A nc cap, .bool h, .bool st, vo], .int .i64 wt, .int .i64 ms] w fun e w' => e = .returned (.int .i64 (pendI (cv f nc 7) (cv f nc 8) wt ms)) ∧ Below w.heap.size w w' := by
  have HC := Lib.hid hc
  clear hc
  go_enter Try.func15, Try.ntmps15
  go_wp2_with fail
  have hS0 : (w.alloc (Obj.cells #[vr, .int .i64 pc, .slice A nc cap, .bool h, .bool st, vo] 43)).drew.cell? ⟨w.heap.size, 0, none⟩ = some vr ∧ (w.alloc (Obj.cells #[vr, .int .i64 pc, .slice A nc cap, .bool h, .bool st, vo] 43)).drew.cell? ⟨w.heap.size, 1, none⟩ = some (.int .i64 pc) ∧ (w.alloc (Obj.cells #[vr, .int .i64 pc, .slice A nc cap, .bool h, .bool st, vo] 43)).drew.cell? ⟨w.heap.size, 2, none⟩ = some (.slice A nc cap) ∧ (w.alloc (Obj.cells #[vr, .int .i64 pc, .slice A nc cap, .bool h, .bool st, vo] 43)).drew.cell? ⟨w.heap.size, 3, none⟩ = some (.bool h) ∧ (w.alloc (Obj.cells #[vr, .int .i64 pc, .slice A nc cap, .bool h, .bool st, vo] 43)).drew.cell? ⟨w.heap.size, 4, none⟩ = some (.bool st) ∧ (w.alloc (Obj.cells #[vr, .int .i64 pc, .slice A nc cap, .bool h, .bool st, vo] 43)).drew.cell? ⟨w.heap.size, 5, none⟩ = some vo ∧ IntsAt (w.alloc (Obj.cells #[vr, .int .i64 pc, .slice A nc cap, .bool h, .bool st, vo] 43)).drew A nc f ∧ Below w.heap.size w (w.alloc (Obj.cells #[vr, .int .i64 pc, .slice A nc cap, .bool h, .bool st, vo] 43)).drew := by
    refine ⟨by simp, by simp, by simp, by simp, by simp, by simp, HC.out.alloc _, ((Below.refl _ _).alloc (Nat.le_refl _) _).drew⟩
  have HS0 := Lib.hid hS0
  clear hS0
  go_region_held3 (fun w' => w'.cell? ⟨w.heap.size, 0, none⟩ = some vr ∧ w'.cell? ⟨w.heap.size, 1, none⟩ = some (.int .i64 pc) ∧ w'.cell? ⟨w.heap.size, 2, none⟩ = some (.slice A nc cap) ∧ w'.cell? ⟨w.heap.size, 3, none⟩ = some (.bool h) ∧ w'.cell? ⟨w.heap.size, 4, none⟩ = some (.bool st) ∧ w'.cell? ⟨w.heap.size, 5, none⟩ = some vo ∧ IntsAt w' A nc f ∧ Below w.heap.size w w') (first | exact HS0.out | assumption | exact keep8 (by assumption) (by assumption))
    (first | (go_at_call 22; refine (vof_any _ _ _ _ _ _ _ _ _ f _ (by decide) (pick8 (by assumption)).1 hn).mono ?_; rintro e w' ⟨rfl, hb⟩) | (go_at_call 28; refine (pending_any _ _ _ _ _).mono ?_; rintro e w' ⟨rfl, rfl⟩))
  have HB := Lib.hid (pick8 (by assumption)).2
  go_wp2_with fail
  go_ret
  exact ⟨rfl, HB.out⟩

/-- For how many steps nothing wakes a machine that waits; whether anything does. -/
def slp (f : Nat → Int) (nc : Nat) (wt ms : Int) : Int × Bool :=
  if bits .and .i64 (pendI (cv f nc 7) (cv f nc 8) wt ms) (cv f nc 10) ≠ 0 ∨ cv f nc 0 / 4 % 2 = 0 then (0, true)
  else if cv f nc 10 % 2 = 0 ∨ cv f nc 8 = 0 then (0, false) else (W (cv f nc 8 - cv f nc 7), true)
theorem slp_cases (f : Nat → Int) (nc : Nat) (wt ms : Int) :
    ((bits .and .i64 (pendI (cv f nc 7) (cv f nc 8) wt ms) (cv f nc 10) != 0) = true ∧ slp f nc wt ms = (0, true)) ∨
    ((bits .and .i64 (pendI (cv f nc 7) (cv f nc 8) wt ms) (cv f nc 10) != 0) = false ∧ (cv f nc 0 / 4 % 2 == 0) = true ∧ slp f nc wt ms = (0, true)) ∨
    ((bits .and .i64 (pendI (cv f nc 7) (cv f nc 8) wt ms) (cv f nc 10) != 0) = false ∧ (cv f nc 0 / 4 % 2 == 0) = false ∧ (cv f nc 10 % 2 == 0) = true ∧ slp f nc wt ms = (0, false)) ∨
    ((bits .and .i64 (pendI (cv f nc 7) (cv f nc 8) wt ms) (cv f nc 10) != 0) = false ∧ (cv f nc 0 / 4 % 2 == 0) = false ∧ (cv f nc 10 % 2 == 0) = false ∧ (cv f nc 8 == 0) = true ∧ slp f nc wt ms = (0, false)) ∨
    ((bits .and .i64 (pendI (cv f nc 7) (cv f nc 8) wt ms) (cv f nc 10) != 0) = false ∧ (cv f nc 0 / 4 % 2 == 0) = false ∧ (cv f nc 10 % 2 == 0) = false ∧ (cv f nc 8 == 0) = false ∧ slp f nc wt ms = (W (cv f nc 8 - cv f nc 7), true)) := by
  unfold slp
  by_cases h1 : bits .and .i64 (pendI (cv f nc 7) (cv f nc 8) wt ms) (cv f nc 10) = 0
  · by_cases h2 : cv f nc 0 / 4 % 2 = 0
    · exact .inr (.inl ⟨by simp [h1], by simp [h2], if_pos (.inr h2)⟩)
    · by_cases h3 : cv f nc 10 % 2 = 0
      · exact .inr (.inr (.inl ⟨by simp [h1], by simp [h2], by simp [h3], by rw [if_neg (by simp [h1, h2]), if_pos (.inl h3)]⟩))
      · by_cases h4 : cv f nc 8 = 0
        · exact .inr (.inr (.inr (.inl ⟨by simp [h1], by simp [h2], by simp [h3], by simp [h4], by rw [if_neg (by simp [h1, h2]), if_pos (.inr h4)]⟩)))
        · exact .inr (.inr (.inr (.inr ⟨by simp [h1], by simp [h2], by simp [h3], by simp [h4], by rw [if_neg (by simp [h1, h2]), if_neg (by simp [h3, h4])]⟩)))
  · exact .inl ⟨by simp [h1], if_pos (.inl h1)⟩
set_option maxHeartbeats 2000000 in
theorem vsleep_any (w : World) (vr vo : Value) (pc : Int) (A : Option Addr) (nc cap : Nat) (h st : Bool) (f : Nat → Int) (wt ms : Int) (hc : IntsAt w A nc f) (hn : nc ≤ 100000) :
    Calls Try.prog 8 #[.agg #[vr, .int .i64 pc, .slice A nc cap, .bool h, .bool st, vo], .int .i64 wt, .int .i64 ms] w fun e w' => e = .returned (.tuple #[.int .i64 (slp f nc wt ms).1, .bool (slp f nc wt ms).2]) ∧ Below w.heap.size w w' := by
  have h1 := and_1 (cv f nc 10)
  have hb10 := cv_bd f nc 10
  have hc1 := hc.alloc (.cells #[vr, .int .i64 pc, .slice A nc cap, .bool h, .bool st, vo] 43)
  have hbx : Below w.heap.size w (w.alloc (.cells #[vr, .int .i64 pc, .slice A nc cap, .bool h, .bool st, vo] 43)) := (Below.refl _ _).alloc (Nat.le_refl _) _
  have hcell : ∀ w', Below (w.alloc (.cells #[vr, .int .i64 pc, .slice A nc cap, .bool h, .bool st, vo] 43)).heap.size (w.alloc (.cells #[vr, .int .i64 pc, .slice A nc cap, .bool h, .bool st, vo] 43)) w' →
      w'.cell? ⟨w.heap.size, 0, none⟩ = some vr ∧ w'.cell? ⟨w.heap.size, 1, none⟩ = some (.int .i64 pc) ∧ w'.cell? ⟨w.heap.size, 2, none⟩ = some (.slice A nc cap) ∧ w'.cell? ⟨w.heap.size, 3, none⟩ = some (.bool h) ∧ w'.cell? ⟨w.heap.size, 4, none⟩ = some (.bool st) ∧ w'.cell? ⟨w.heap.size, 5, none⟩ = some vo := fun w' hb =>
    ⟨cell_below hb _ _ (by simp), cell_below hb _ _ (by simp), cell_below hb _ _ (by simp), cell_below hb _ _ (by simp), cell_below hb _ _ (by simp), cell_below hb _ _ (by simp)⟩
  have HC1 := Lib.hid hc1
  have HBX := Lib.hid hbx
  have HCE := Lib.hid hcell
  clear hc hc1 hbx hcell
  rcases slp_cases f nc wt ms with ⟨k1, e⟩ | ⟨k1, k2, e⟩ | ⟨k1, k2, k3, e⟩ | ⟨k1, k2, k3, k4, e⟩ | ⟨k1, k2, k3, k4, e⟩
  all_goals
    rw [e]; clear e
    go_enter Try.func8, Try.ntmps8
    go_wp2_with fail
    refine (vof_any _ _ _ _ _ _ _ _ _ f _ (by decide) HC1.out hn).mono ?_
    rintro e w1 ⟨rfl, hb1⟩
    obtain ⟨g0, g1, g2, g3, g4, g5⟩ := HCE.out w1 hb1
    have HB1 := Lib.hid hb1
    clear hb1
    go_wp2_with fail
    refine (vpend_any _ _ _ _ _ _ _ _ _ f _ _ (HC1.out.below HB1.out) hn).mono ?_
    rintro e w2 ⟨rfl, hb2⟩
    have HB2 := Lib.hid (btrans HB1.out hb2)
    clear hb2 HB1 g0 g1 g2 g3 g4 g5
    obtain ⟨g0, g1, g2, g3, g4, g5⟩ := HCE.out w2 HB2.out
    go_wp2_with (first | (go_at_call 22; refine (vof_any _ _ _ _ _ _ _ _ _ f _ (by decide) (HC1.out.below HB2.out) hn).mono ?_; rintro e w3 ⟨rfl, hb3⟩; have HB3 := Lib.hid (btrans HB2.out hb3); clear hb3 HB2 g0 g1 g2 g3 g4 g5; obtain ⟨g0, g1, g2, g3, g4, g5⟩ := HCE.out w3 HB3.out; have HB2 := Lib.hid HB3.out; clear HB3) | (go_at_call 23; refine (user_any _ _).mono ?_; rintro e w' ⟨rfl, rfl⟩) | (go_at_call 24; refine (sub_any _ _ _).mono ?_; rintro e w' ⟨rfl, rfl⟩))
    go_ret2
    exact ⟨rfl, HBX.out.trans (HB2.out.mono (by simp))⟩
end Go.Proofs.Ytdnmjhkgibaadaa
