/- What package word and the reference's words compute, of every number: each call returns the plain number that is written there and changes nothing. No conditions. -/
import Derived.Test.YtgljfedajnamnaaRows
import Derived.Test.YtgljfedajnamnaaPlain
import Derived.WalkKit
import Derived.WalkLawsBesides
namespace Go.Proofs.Ytgljfedajnamnaa
open Go.RowKit

theorem ret_int {k : IntKind} {a b : Int} (h : a = b) : Ending.returned (.int k a) = .returned (.int k b) := by rw [h]
theorem ret_bool {a b : Bool} (h : a = b) : Ending.returned (.bool a) = .returned (.bool b) := by rw [h]

theorem of_any (a : Int) (w : World) : Calls Try.prog 14 #[.int .i64 a] w fun e w' => e = .returned (.int .i64 (W a)) ∧ w = w' := by
  go_enter Try.func14, Try.ntmps14
  go_wp2
  go_ret
  exact ⟨rfl, rfl⟩
theorem refW_any (a : Int) (w : World) : Calls Try.prog 15 #[.int .i64 a] w fun e w' => e = .returned (.int .i64 (W a)) ∧ w = w' := by
  go_enter Try.func15, Try.ntmps15
  go_wp2
  go_ret
  exact ⟨ret_int (and_word a), rfl⟩
theorem signed_any (a : Int) (w : World) : Calls Try.prog 16 #[.int .i64 a] w fun e w' => e = .returned (.int .i64 (S a)) ∧ w = w' := by
  go_enter Try.func16, Try.ntmps16
  go_wp2
  go_ret
  exact ⟨ret_int (by rw [wrap32_W, wrap64_S]), rfl⟩
theorem refSigned_any (a : Int) (w : World) : Calls Try.prog 17 #[.int .i64 a] w fun e w' => e = .returned (.int .i64 (S a)) ∧ w = w' := by
  have h1 := and_word a
  have h2 := W_bd a
  have h3 := S_eq a
  by_cases h : 2147483647 < W a
  · rw [if_pos h] at h3
    rw [h3]
    clear h3
    go_enter Try.func17, Try.ntmps17
    go_wp2
    go_ret
    exact ⟨rfl, rfl⟩
  · rw [if_neg h] at h3
    rw [h3]
    clear h3
    go_enter Try.func17, Try.ntmps17
    go_wp2
    go_ret
    exact ⟨rfl, rfl⟩
theorem add_any (a b : Int) (w : World) : Calls Try.prog 18 #[.int .i64 a, .int .i64 b] w fun e w' => e = .returned (.int .i64 (W (a + b))) ∧ w = w' := by
  go_enter Try.func18, Try.ntmps18
  go_wp2
  go_ret
  exact ⟨rfl, rfl⟩
theorem sub_any (a b : Int) (w : World) : Calls Try.prog 19 #[.int .i64 a, .int .i64 b] w fun e w' => e = .returned (.int .i64 (W (a - b))) ∧ w = w' := by
  go_enter Try.func19, Try.ntmps19
  go_wp2
  go_ret
  exact ⟨rfl, rfl⟩
theorem mul_any (a b : Int) (w : World) : Calls Try.prog 20 #[.int .i64 a, .int .i64 b] w fun e w' => e = .returned (.int .i64 (W (a * b))) ∧ w = w' := by
  go_enter Try.func20, Try.ntmps20
  go_wp2
  go_ret
  exact ⟨ret_int (W_mul a b), rfl⟩
theorem refMul_any (a b : Int) (w : World) : Calls Try.prog 21 #[.int .i64 a, .int .i64 b] w fun e w' => e = .returned (.int .i64 (W (a * b))) ∧ w = w' := by
  go_enter Try.func21, Try.ntmps21
  go_wp2
  go_ret
  exact ⟨ret_int (W_mul a b), rfl⟩
theorem less_any (a b : Int) (w : World) : Calls Try.prog 22 #[.int .i64 a, .int .i64 b] w fun e w' => e = .returned (.bool (decide (S a < S b))) ∧ w = w' := by
  go_enter Try.func22, Try.ntmps22
  go_wp2
  go_ret
  exact ⟨ret_bool (by rw [wrap32_W, wrap32_W]), rfl⟩
theorem below_any (a b : Int) (w : World) : Calls Try.prog 23 #[.int .i64 a, .int .i64 b] w fun e w' => e = .returned (.bool (decide (W a < W b))) ∧ w = w' := by
  go_enter Try.func23, Try.ntmps23
  go_wp2
  go_ret
  exact ⟨ret_bool rfl, rfl⟩
theorem left_any (a n : Int) (w : World) : Calls Try.prog 24 #[.int .i64 a, .int .i64 n] w fun e w' => e = .returned (.int .i64 (shl a n)) ∧ w = w' := by
  have h1 := and_31 n
  go_enter Try.func24, Try.ntmps24
  go_wp2
  go_ret
  exact ⟨ret_int (shl_of a n), rfl⟩
theorem right_any (a n : Int) (w : World) : Calls Try.prog 26 #[.int .i64 a, .int .i64 n] w fun e w' => e = .returned (.int .i64 (shr a n)) ∧ w = w' := by
  have h1 := and_31 n
  go_enter Try.func26, Try.ntmps26
  go_wp2
  go_ret
  exact ⟨ret_int (shr_of a n), rfl⟩
theorem arith_any (a n : Int) (w : World) : Calls Try.prog 28 #[.int .i64 a, .int .i64 n] w fun e w' => e = .returned (.int .i64 (sra a n)) ∧ w = w' := by
  have h1 := and_31 n
  have h2 := S_bd a
  go_enter Try.func28, Try.ntmps28
  go_wp2_with (first | (go_at_call 16; refine (signed_any _ _).mono ?_; rintro e w' ⟨rfl, rfl⟩) | (go_at_call 14; refine (of_any _ _).mono ?_; rintro e w' ⟨rfl, rfl⟩))
  go_ret
  exact ⟨ret_int rfl, rfl⟩
theorem refLeft_any (a n : Int) (w : World) : Calls Try.prog 25 #[.int .i64 a, .int .i64 n] w fun e w' => e = .returned (.int .i64 (shl a n)) ∧ w = w' := by
  have h1 := and_31 n
  go_enter Try.func25, Try.ntmps25
  go_wp2_with (go_at_call 15; refine (refW_any _ _).mono ?_; rintro e w' ⟨rfl, rfl⟩)
  go_ret
  exact ⟨ret_int (shl_of' a n), rfl⟩
theorem refRight_any (a n : Int) (w : World) : Calls Try.prog 27 #[.int .i64 a, .int .i64 n] w fun e w' => e = .returned (.int .i64 (shr a n)) ∧ w = w' := by
  have h1 := and_31 n
  go_enter Try.func27, Try.ntmps27
  go_wp2_with (go_at_call 15; refine (refW_any _ _).mono ?_; rintro e w' ⟨rfl, rfl⟩)
  go_ret
  exact ⟨ret_int rfl, rfl⟩
theorem refArith_any (a n : Int) (w : World) : Calls Try.prog 29 #[.int .i64 a, .int .i64 n] w fun e w' => e = .returned (.int .i64 (sra a n)) ∧ w = w' := by
  have h1 := and_31 n
  have h2 := S_bd a
  go_enter Try.func29, Try.ntmps29
  go_wp2_with (first | (go_at_call 17; refine (refSigned_any _ _).mono ?_; rintro e w' ⟨rfl, rfl⟩) | (go_at_call 15; refine (refW_any _ _).mono ?_; rintro e w' ⟨rfl, rfl⟩))
  go_ret
  exact ⟨ret_int rfl, rfl⟩
theorem div_any (a b : Int) (w : World) : Calls Try.prog 34 #[.int .i64 a, .int .i64 b] w fun e w' => e = .returned (.int .i64 (qdiv a b)) ∧ w = w' := by
  by_cases h : b % 4294967296 = 0
  · have h1 : (b % 4294967296 == 0) = true := by simp [h]
    have hq : qdiv a b = 4294967295 := if_pos h
    rw [hq]; clear hq h
    go_enter Try.func34, Try.ntmps34
    go_wp2_with (go_at_call 14; refine (of_any _ _).mono ?_; rintro e w' ⟨rfl, rfl⟩)
    go_ret
    exact ⟨rfl, rfl⟩
  · have h1 : (b % 4294967296 == 0) = false := by simp [h]
    have h2 : 1 ≤ b % 4294967296 := by omega
    have hq : qdiv a b = a % 4294967296 / (b % 4294967296) := if_neg h
    rw [hq]; clear hq h
    have hd := div_bd (a % 4294967296) (b % 4294967296) 4294967295 (by omega) (by omega) (by omega)
    go_enter Try.func34, Try.ntmps34
    go_wp2
    go_ret
    exact ⟨rfl, rfl⟩
theorem rem_any (a b : Int) (w : World) : Calls Try.prog 35 #[.int .i64 a, .int .i64 b] w fun e w' => e = .returned (.int .i64 (rrem a b)) ∧ w = w' := by
  by_cases h : b % 4294967296 = 0
  · have h1 : (b % 4294967296 == 0) = true := by simp [h]
    have hq : rrem a b = W a := if_pos h
    rw [hq]; clear hq h
    go_enter Try.func35, Try.ntmps35
    go_wp2_with (go_at_call 14; refine (of_any _ _).mono ?_; rintro e w' ⟨rfl, rfl⟩)
    go_ret
    exact ⟨rfl, rfl⟩
  · have h1 : (b % 4294967296 == 0) = false := by simp [h]
    have h2 : 1 ≤ b % 4294967296 := by omega
    have hq : rrem a b = a % 4294967296 % (b % 4294967296) := if_neg h
    rw [hq]; clear hq h
    have hd : 0 ≤ a % 4294967296 % (b % 4294967296) := Int.emod_nonneg _ (by omega)
    have hd2 : a % 4294967296 % (b % 4294967296) < b % 4294967296 := Int.emod_lt_of_pos _ (by omega)
    go_enter Try.func35, Try.ntmps35
    go_wp2
    go_ret
    exact ⟨rfl, rfl⟩
theorem refDiv_any (a b : Int) (w : World) : Calls Try.prog 36 #[.int .i64 a, .int .i64 b] w fun e w' => e = .returned (.int .i64 (qdiv a b)) ∧ w = w' := by
  have ha := W_bd a
  have hb := W_bd b
  by_cases h : W b = 0
  · have h1 : (W b == 0) = true := by simp [h]
    have hq : qdiv a b = 4294967295 := if_pos h
    rw [hq]; clear hq h
    go_enter Try.func36, Try.ntmps36
    go_wp2_with (go_at_call 15; refine (refW_any _ _).mono ?_; rintro e w' ⟨rfl, rfl⟩)
    go_ret
    exact ⟨rfl, rfl⟩
  · have h1 : (W b == 0) = false := by simp [h]
    have h2 : 1 ≤ W b := by omega
    have hq : qdiv a b = W a / W b := if_neg h
    rw [hq]; clear hq h
    go_enter Try.func36, Try.ntmps36
    go_wp2_with (go_at_call 15; refine (refW_any _ _).mono ?_; rintro e w' ⟨rfl, rfl⟩)
    go_ret
    exact ⟨rfl, rfl⟩
theorem refRem_any (a b : Int) (w : World) : Calls Try.prog 37 #[.int .i64 a, .int .i64 b] w fun e w' => e = .returned (.int .i64 (rrem a b)) ∧ w = w' := by
  have ha := W_bd a
  have hb := W_bd b
  by_cases h : W b = 0
  · have h1 : (W b == 0) = true := by simp [h]
    have hq : rrem a b = W a := if_pos h
    rw [hq]; clear hq h
    go_enter Try.func37, Try.ntmps37
    go_wp2_with (go_at_call 15; refine (refW_any _ _).mono ?_; rintro e w' ⟨rfl, rfl⟩)
    go_ret
    exact ⟨rfl, rfl⟩
  · have h1 : (W b == 0) = false := by simp [h]
    have h2 : 1 ≤ W b := by omega
    have hq : rrem a b = W a % W b := if_neg h
    rw [hq]; clear hq h
    go_enter Try.func37, Try.ntmps37
    go_wp2_with (go_at_call 15; refine (refW_any _ _).mono ?_; rintro e w' ⟨rfl, rfl⟩)
    go_ret
    exact ⟨rfl, rfl⟩
theorem bits_no (a high low : Int) (w : World) (h : high > 31 ∨ low < 0 ∨ high < low) : Calls Try.prog 30 #[.int .i64 a, .int .i64 high, .int .i64 low] w fun e w' => e = .returned (.int .i64 0) ∧ w = w' := by
  go_enter Try.func30, Try.ntmps30
  go_wp2
  all_goals
    first
    | omega
    | (go_ret; exact ⟨rfl, rfl⟩)
theorem bits_yes (a high low : Int) (w : World) (h1 : high ≤ 31) (h2 : 0 ≤ low) (h3 : low ≤ high) : Calls Try.prog 30 #[.int .i64 a, .int .i64 high, .int .i64 low] w fun e w' => e = .returned (.int .i64 (W a / 2 ^ low.toNat % 2 ^ (high - low + 1).toNat)) ∧ w = w' := by
  go_enter Try.func30, Try.ntmps30
  go_wp2
  go_ret
  exact ⟨ret_int (bt_of a high low h1 h2 h3), rfl⟩
theorem bits_any (a high low : Int) (w : World) : Calls Try.prog 30 #[.int .i64 a, .int .i64 high, .int .i64 low] w fun e w' => e = .returned (.int .i64 (bt a high low)) ∧ w = w' := by
  unfold bt
  by_cases h : high > 31 ∨ low < 0 ∨ high < low
  · rw [if_pos h]; exact bits_no a high low w h
  · rw [if_neg h]; exact bits_yes a high low w (by omega) (by omega) (by omega)
theorem refBits_no (a high low : Int) (w : World) (h : high > 31 ∨ low < 0 ∨ high < low) : Calls Try.prog 31 #[.int .i64 a, .int .i64 high, .int .i64 low] w fun e w' => e = .returned (.int .i64 0) ∧ w = w' := by
  go_enter Try.func31, Try.ntmps31
  go_wp2_with fail
  all_goals
    first
    | omega
    | (go_ret; exact ⟨rfl, rfl⟩)
theorem refBits_yes (a high low : Int) (w : World) (h1 : high ≤ 31) (h2 : 0 ≤ low) (h3 : low ≤ high) : Calls Try.prog 31 #[.int .i64 a, .int .i64 high, .int .i64 low] w fun e w' => e = .returned (.int .i64 (W a / 2 ^ low.toNat % 2 ^ (high - low + 1).toNat)) ∧ w = w' := by
  have ha := W_bd a
  go_enter Try.func31, Try.ntmps31
  go_wp2_with (go_at_call 15; refine (refW_any _ _).mono ?_; rintro e w' ⟨rfl, rfl⟩)
  go_ret
  exact ⟨ret_int (and_pow _ _ (by omega)), rfl⟩
theorem refBits_any (a high low : Int) (w : World) : Calls Try.prog 31 #[.int .i64 a, .int .i64 high, .int .i64 low] w fun e w' => e = .returned (.int .i64 (bt a high low)) ∧ w = w' := by
  unfold bt
  by_cases h : high > 31 ∨ low < 0 ∨ high < low
  · rw [if_pos h]; exact refBits_no a high low w h
  · rw [if_neg h]; exact refBits_yes a high low w (by omega) (by omega) (by omega)
theorem extend_any (a n : Int) (w : World) : Calls Try.prog 32 #[.int .i64 a, .int .i64 n] w fun e w' => e = .returned (.int .i64 (ext a n)) ∧ w = w' := by
  by_cases h1 : n < 1
  · rw [ext_zero a n h1]
    go_enter Try.func32, Try.ntmps32
    go_wp2_with fail
    go_ret
    exact ⟨rfl, rfl⟩
  · by_cases h2 : n ≤ 32
    · rw [ext_eq a n (by omega) h2]
      have h3 : 1 ≤ n := by omega
      clear h1
      go_enter Try.func32, Try.ntmps32
      go_wp2_with (go_at_call 14; refine (of_any _ _).mono ?_; rintro e w' ⟨rfl, rfl⟩)
      go_ret
      exact ⟨ret_int (by rw [← ext_of a n.toNat (by omega) (by omega), show (32 - n).toNat = 32 - n.toNat by omega]), rfl⟩
    · rw [ext_big a n (by omega)]
      have h3 : 32 < n := by omega
      clear h1 h2
      go_enter Try.func32, Try.ntmps32
      go_wp2_with (go_at_call 14; refine (of_any _ _).mono ?_; rintro e w' ⟨rfl, rfl⟩)
      go_ret
      exact ⟨ret_int (by rw [W_wrap, wrap32_W, W_S]), rfl⟩
theorem refExtend_any (a n : Int) (w : World) : Calls Try.prog 33 #[.int .i64 a, .int .i64 n] w fun e w' => e = .returned (.int .i64 (ext a n)) ∧ w = w' := by
  by_cases h1 : n < 1
  · rw [ext_zero a n h1]
    go_enter Try.func33, Try.ntmps33
    go_wp2_with fail
    go_ret
    exact ⟨rfl, rfl⟩
  · by_cases h2 : n ≤ 32
    · rw [ext_eq a n (by omega) h2]
      have h3 : 1 ≤ n := by omega
      clear h1
      go_enter Try.func33, Try.ntmps33
      go_wp2_with (go_at_call 15; refine (refW_any _ _).mono ?_; rintro e w' ⟨rfl, rfl⟩)
      · go_ret
        exact ⟨ret_int (refExt_hi a n.toNat (by omega) (by omega) (by assumption)), rfl⟩
      · go_ret
        exact ⟨ret_int (refExt_lo a n.toNat (by omega) (by omega) (by assumption)), rfl⟩
    · rw [ext_big a n (by omega)]
      have h3 : 32 < n := by omega
      clear h1 h2
      have h4 := and_word a
      go_enter Try.func33, Try.ntmps33
      go_wp2_with (go_at_call 15; refine (refW_any _ _).mono ?_; rintro e w' ⟨rfl, rfl⟩)
      · go_ret
        exact ⟨ret_int (by rw [W_wrap]; unfold W; omega), rfl⟩
      · go_ret
        exact ⟨ret_int (W_W a), rfl⟩
theorem alive1 (w : World) : Calls Try.prog 13 #[] w fun e w' => e = .returned (.bool true) ∧ w = w' := by
  have h1 : W (4294967295 + 2) = 1 := by decide
  have h2 : ext 32768 16 = 4294934528 := by decide
  have h3 : S 4294967295 = -1 := by decide
  go_enter Try.func13, Try.ntmps13
  go_wp2_with (first | (go_at_call 18; refine (add_any _ _ _).mono ?_; rintro e w' ⟨rfl, rfl⟩) | (go_at_call 32; refine (extend_any _ _ _).mono ?_; rintro e w' ⟨rfl, rfl⟩) | (go_at_call 16; refine (signed_any _ _).mono ?_; rintro e w' ⟨rfl, rfl⟩))
  go_ret
  exact ⟨rfl, rfl⟩
end Go.Proofs.Ytgljfedajnamnaa
