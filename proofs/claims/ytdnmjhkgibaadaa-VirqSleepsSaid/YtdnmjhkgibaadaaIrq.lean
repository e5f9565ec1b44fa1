/- What package irq and the reference's interrupts compute, of every number: each call returns the plain values that are written there and changes nothing. No conditions. -/
import Derived.Test.YtdnmjhkgibaadaaCsr
import Derived.LoopTactic
import Derived.Lib.Hide
namespace Go.Proofs.Ytdnmjhkgibaadaa
open Go.RowKit

/-- The least of the lines 0 to 2 whose bit is up; whether there is one. -/
def pk (x : Int) : Int := if x % 2 = 1 then 0 else if x / 2 % 2 = 1 then 1 else if x / 4 % 2 = 1 then 2 else 0
def pkB (x : Int) : Bool := !(x % 8 == 0)
def tkB (s x : Int) : Bool := pkB x && !(s % 2 == 0 && s / 4 % 2 == 1)
def tk (s x : Int) : Int := if tkB s x then 2147483648 + pk x else 0
def pendI (time cmp waiting messages : Int) : Int := (if W cmp ≠ 0 ∧ W cmp ≤ W time then 1 else 0) + (if 0 < waiting then 2 else 0) + (if 0 < messages then 4 else 0)

theorem pk_cases (x : Int) : (x % 2 = 1 ∧ pk x = 0 ∧ pkB x = true) ∨ (x % 2 = 0 ∧ x / 2 % 2 = 1 ∧ pk x = 1 ∧ pkB x = true) ∨ (x % 2 = 0 ∧ x / 2 % 2 = 0 ∧ x / 4 % 2 = 1 ∧ pk x = 2 ∧ pkB x = true) ∨ (x % 2 = 0 ∧ x / 2 % 2 = 0 ∧ x / 4 % 2 = 0 ∧ pk x = 0 ∧ pkB x = false) := by
  unfold pk pkB
  by_cases h1 : x % 2 = 1
  · left; refine ⟨h1, if_pos h1, ?_⟩; simp; omega
  · by_cases h2 : x / 2 % 2 = 1
    · right; left; refine ⟨by omega, h2, ?_, ?_⟩
      · rw [if_neg h1, if_pos h2]
      · simp; omega
    · by_cases h3 : x / 4 % 2 = 1
      · right; right; left; refine ⟨by omega, by omega, h3, ?_, ?_⟩
        · rw [if_neg h1, if_neg h2, if_pos h3]
        · simp; omega
      · right; right; right; refine ⟨by omega, by omega, by omega, ?_, ?_⟩
        · rw [if_neg h1, if_neg h2, if_neg h3]
        · simp; omega
theorem refPick_any (pend ien : Int) (w : World) : Calls Try.prog 51 #[.int .i64 pend, .int .i64 ien] w fun e w' => e = .returned (.tuple #[.int .i64 (pk (bits .and .i64 pend ien)), .bool (pkB (bits .and .i64 pend ien))]) ∧ w = w' := by
  obtain ⟨x, hx⟩ : ∃ x, bits .and .i64 pend ien = x := ⟨_, rfl⟩
  rw [hx]
  have h0 := and_1 x
  have h1 := and_1 (x / 2)
  have h2 := and_1 (x / 4)
  rcases pk_cases x with ⟨k0, e1, e2⟩ | ⟨k0, k1, e1, e2⟩ | ⟨k0, k1, k2, e1, e2⟩ | ⟨k0, k1, k2, e1, e2⟩
  all_goals
    rw [e1, e2]; clear e1 e2
    rw [k0] at h0
    try rw [k1] at h1
    try rw [k2] at h2
    go_enter Try.func51, Try.ntmps51
    go_wp2
    go_loop [6] (fun i => ∃ k : Int, i = .int .i64 k ∧ 0 ≤ k ∧ k ≤ 3 ∧ (1 ≤ k → x % 2 = 0) ∧ (2 ≤ k → x / 2 % 2 = 0) ∧ (3 ≤ k → x / 4 % 2 = 0)) (fun i => 3 - (intOf i).toNat)
    case atStart => exact ⟨0, rfl, by omega, by omega, by omega, by omega, by omega⟩
    case round =>
      obtain ⟨k, rfl, g0, g1, g2, g3, g4⟩ := hrel
      rcases (show k = 0 ∨ k = 1 ∨ k = 2 ∨ k = 3 by omega) with rfl | rfl | rfl | rfl
      all_goals
        first
        | omega
        | (clear g2 g3 g4
           go_wp2
           first
           | (go_ret2; exact ⟨rfl, rfl⟩)
           | (go_round
              case rel => exact ⟨_, rfl, by omega, by omega, by omega, by omega, by omega⟩
              case measure => simp [intOf]))
theorem tk_no1 (s x : Int) (h : pkB x = false) : tkB s x = false ∧ tk s x = 0 := by
  have : tkB s x = false := by unfold tkB; rw [h]; rfl
  exact ⟨this, by unfold tk; rw [this]; rfl⟩
theorem tk_no2 (s x : Int) (h1 : s % 2 = 0) (h4 : s / 4 % 2 = 1) : tkB s x = false ∧ tk s x = 0 := by
  have : tkB s x = false := by unfold tkB; rw [h1, h4]; simp
  exact ⟨this, by unfold tk; rw [this]; rfl⟩
theorem tk_yes (s x : Int) (h : pkB x = true) (hs : s % 2 = 1 ∨ s / 4 % 2 = 0) : tkB s x = true ∧ tk s x = 2147483648 + pk x := by
  have : tkB s x = true := by unfold tkB; rw [h]; rcases hs with hs | hs <;> rw [hs] <;> simp
  exact ⟨this, by unfold tk; rw [this]; rfl⟩
theorem pk_bd (x : Int) : 0 ≤ pk x ∧ pk x ≤ 2 := by unfold pk; split <;> (try split) <;> (try split) <;> omega
theorem tk_cases (s x : Int) : (pkB x = false ∧ tkB s x = false ∧ tk s x = 0) ∨ (pkB x = true ∧ s % 2 = 0 ∧ s / 4 % 2 = 1 ∧ tkB s x = false ∧ tk s x = 0) ∨ (pkB x = true ∧ s / 4 % 2 = 0 ∧ s % 2 = 0 ∧ tkB s x = true ∧ tk s x = 2147483648 + pk x) ∨ (pkB x = true ∧ s / 4 % 2 = 0 ∧ s % 2 = 1 ∧ tkB s x = true ∧ tk s x = 2147483648 + pk x) ∨ (pkB x = true ∧ s / 4 % 2 = 1 ∧ s % 2 = 1 ∧ tkB s x = true ∧ tk s x = 2147483648 + pk x) := by
  cases h : pkB x
  · exact Or.inl ⟨rfl, tk_no1 s x h⟩
  · by_cases h4 : s / 4 % 2 = 0
    · by_cases h1 : s % 2 = 0
      · exact Or.inr (Or.inr (Or.inl ⟨rfl, h4, h1, tk_yes s x h (Or.inr h4)⟩))
      · exact Or.inr (Or.inr (Or.inr (Or.inl ⟨rfl, h4, by omega, tk_yes s x h (Or.inr h4)⟩)))
    · by_cases h1 : s % 2 = 0
      · exact Or.inr (Or.inl ⟨rfl, h1, by omega, tk_no2 s x h1 (by omega)⟩)
      · exact Or.inr (Or.inr (Or.inr (Or.inr ⟨rfl, by omega, by omega, tk_yes s x h (Or.inl (by omega))⟩)))
theorem refTakes_any (s pend ien : Int) (w : World) : Calls Try.prog 35 #[.int .i64 s, .int .i64 pend, .int .i64 ien] w fun e w' => e = .returned (.tuple #[.int .i64 (tk s (bits .and .i64 pend ien)), .bool (tkB s (bits .and .i64 pend ien))]) ∧ w = w' := by
  have hp := refPick_any pend ien w
  generalize bits .and .i64 pend ien = x at *
  have hb := pk_bd x
  have h5 := and_5 s
  rcases tk_cases s x with ⟨k, e1, e2⟩ | ⟨k, k1, k4, e1, e2⟩ | ⟨k, k4, k1, e1, e2⟩ | ⟨k, k4, k1, e1, e2⟩ | ⟨k, k4, k1, e1, e2⟩
  all_goals
    rw [e1, e2]; clear e1 e2
    try rw [k1, k4] at h5
    rw [k] at hp; clear k
    have Hp := Lib.hid hp
    clear hp
    go_enter Try.func35, Try.ntmps35
    go_wp2_with (go_at_call 51; refine (Hp.out).mono ?_; rintro e w' ⟨rfl, rfl⟩)
    go_ret2
    exact ⟨rfl, rfl⟩
theorem pending_any (time cmp waiting messages : Int) (w : World) : Calls Try.prog 28 #[.int .i64 time, .int .i64 cmp, .int .i64 waiting, .int .i64 messages] w fun e w' => e = .returned (.int .i64 (pendI time cmp waiting messages)) ∧ w = w' := by
  unfold pendI
  have hc := W_bd cmp
  by_cases h0 : W cmp = 0
  · have b0 : (W cmp != 0) = false := by simp [h0]
    rw [if_neg (by omega)]; clear h0
    by_cases h2 : 0 < waiting <;> by_cases h3 : 0 < messages
    all_goals
      first | rw [if_pos h2] | rw [if_neg h2]
      first | rw [if_pos h3] | rw [if_neg h3]
      go_enter Try.func28, Try.ntmps28
      go_wp2_with (first | (go_at_call 33; refine (of_any _ _).mono ?_; rintro e w' ⟨rfl, rfl⟩) | (go_at_call 49; refine (below_any _ _ _).mono ?_; rintro e w' ⟨rfl, rfl⟩))
      go_ret
      exact ⟨ret_int (by decide), rfl⟩
  · have b0 : (W cmp != 0) = true := by simp [h0]
    by_cases h1 : W time < W cmp
    · rw [if_neg (by omega)]; clear h0
      by_cases h2 : 0 < waiting <;> by_cases h3 : 0 < messages
      all_goals
        first | rw [if_pos h2] | rw [if_neg h2]
        first | rw [if_pos h3] | rw [if_neg h3]
        go_enter Try.func28, Try.ntmps28
        go_wp2_with (first | (go_at_call 33; refine (of_any _ _).mono ?_; rintro e w' ⟨rfl, rfl⟩) | (go_at_call 49; refine (below_any _ _ _).mono ?_; rintro e w' ⟨rfl, rfl⟩))
        go_ret
        exact ⟨ret_int (by decide), rfl⟩
    · have b1 : decide (W time < W cmp) = false := by simp; omega
      rw [if_pos (by omega)]; clear h0
      by_cases h2 : 0 < waiting <;> by_cases h3 : 0 < messages
      all_goals
        first | rw [if_pos h2] | rw [if_neg h2]
        first | rw [if_pos h3] | rw [if_neg h3]
        go_enter Try.func28, Try.ntmps28
        go_wp2_with (first | (go_at_call 33; refine (of_any _ _).mono ?_; rintro e w' ⟨rfl, rfl⟩) | (go_at_call 49; refine (below_any _ _ _).mono ?_; rintro e w' ⟨rfl, rfl⟩))
        go_ret
        exact ⟨ret_int (by decide), rfl⟩
theorem refPending_any (time cmp waiting messages : Int) (w : World) : Calls Try.prog 17 #[.int .i64 time, .int .i64 cmp, .int .i64 waiting, .int .i64 messages] w fun e w' => e = .returned (.int .i64 (pendI time cmp waiting messages)) ∧ w = w' := by
  unfold pendI
  have hc := W_bd cmp
  by_cases h0 : W cmp = 0
  · have b0 : (W cmp != 0) = false := by simp [h0]
    rw [if_neg (by omega)]; clear h0
    by_cases h2 : 0 < waiting <;> by_cases h3 : 0 < messages
    all_goals
      first | rw [if_pos h2] | rw [if_neg h2]
      first | rw [if_pos h3] | rw [if_neg h3]
      go_enter Try.func17, Try.ntmps17
      go_wp2_with (first | (go_at_call 19; refine (refW_any _ _).mono ?_; rintro e w' ⟨rfl, rfl⟩))
      go_ret
      exact ⟨ret_int (by decide), rfl⟩
  · have b0 : (W cmp != 0) = true := by simp [h0]
    by_cases h1 : W time < W cmp
    · rw [if_neg (by omega)]; clear h0
      by_cases h2 : 0 < waiting <;> by_cases h3 : 0 < messages
      all_goals
        first | rw [if_pos h2] | rw [if_neg h2]
        first | rw [if_pos h3] | rw [if_neg h3]
        go_enter Try.func17, Try.ntmps17
        go_wp2_with (first | (go_at_call 19; refine (refW_any _ _).mono ?_; rintro e w' ⟨rfl, rfl⟩))
        go_ret
        exact ⟨ret_int (by decide), rfl⟩
    · have b1 : decide (W time < W cmp) = false := by simp; omega
      rw [if_pos (by omega)]; clear h0
      by_cases h2 : 0 < waiting <;> by_cases h3 : 0 < messages
      all_goals
        first | rw [if_pos h2] | rw [if_neg h2]
        first | rw [if_pos h3] | rw [if_neg h3]
        go_enter Try.func17, Try.ntmps17
        go_wp2_with (first | (go_at_call 19; refine (refW_any _ _).mono ?_; rintro e w' ⟨rfl, rfl⟩))
        go_ret
        exact ⟨ret_int (by decide), rfl⟩
end Go.Proofs.Ytdnmjhkgibaadaa
