/- What package word and the reference's words compute, of every number: each call returns the plain number that is written there and changes nothing. No conditions. -/
import Derived.Test.YtodkenbkogfefaaRows
import Derived.Test.YtodkenbkogfefaaPlain
import Derived.WalkKit
import Derived.WalkLawsBesides
namespace Go.Proofs.Ytodkenbkogfefaa
open Go.RowKit

theorem ret_int {k : IntKind} {a b : Int} (h : a = b) : Ending.returned (.int k a) = .returned (.int k b) := by rw [h]
theorem ret_bool {a b : Bool} (h : a = b) : Ending.returned (.bool a) = .returned (.bool b) := by rw [h]

theorem of_any (a : Int) (w : World) : Calls Try.prog 33 #[.int .i64 a] w fun e w' => e = .returned (.int .i64 (W a)) ∧ w = w' := by
  go_enter Try.func33, Try.ntmps33
  go_wp2
  go_ret
  exact ⟨rfl, rfl⟩
theorem refW_any (a : Int) (w : World) : Calls Try.prog 17 #[.int .i64 a] w fun e w' => e = .returned (.int .i64 (W a)) ∧ w = w' := by
  go_enter Try.func17, Try.ntmps17
  go_wp2
  go_ret
  exact ⟨ret_int (and_word a), rfl⟩
theorem signed_any (a : Int) (w : World) : Calls Try.prog 77 #[.int .i64 a] w fun e w' => e = .returned (.int .i64 (S a)) ∧ w = w' := by
  go_enter Try.func77, Try.ntmps77
  go_wp2
  go_ret
  exact ⟨ret_int (by rw [wrap32_W, wrap64_S]), rfl⟩
theorem refSigned_any (a : Int) (w : World) : Calls Try.prog 18 #[.int .i64 a] w fun e w' => e = .returned (.int .i64 (S a)) ∧ w = w' := by
  have h1 := and_word a
  have h2 := W_bd a
  have h3 := S_eq a
  by_cases h : 2147483647 < W a
  · rw [if_pos h] at h3
    rw [h3]
    clear h3
    go_enter Try.func18, Try.ntmps18
    go_wp2
    go_ret
    exact ⟨rfl, rfl⟩
  · rw [if_neg h] at h3
    rw [h3]
    clear h3
    go_enter Try.func18, Try.ntmps18
    go_wp2
    go_ret
    exact ⟨rfl, rfl⟩
theorem add_any (a b : Int) (w : World) : Calls Try.prog 66 #[.int .i64 a, .int .i64 b] w fun e w' => e = .returned (.int .i64 (W (a + b))) ∧ w = w' := by
  go_enter Try.func66, Try.ntmps66
  go_wp2
  go_ret
  exact ⟨rfl, rfl⟩
theorem sub_any (a b : Int) (w : World) : Calls Try.prog 67 #[.int .i64 a, .int .i64 b] w fun e w' => e = .returned (.int .i64 (W (a - b))) ∧ w = w' := by
  go_enter Try.func67, Try.ntmps67
  go_wp2
  go_ret
  exact ⟨rfl, rfl⟩
theorem mul_any (a b : Int) (w : World) : Calls Try.prog 70 #[.int .i64 a, .int .i64 b] w fun e w' => e = .returned (.int .i64 (W (a * b))) ∧ w = w' := by
  go_enter Try.func70, Try.ntmps70
  go_wp2
  go_ret
  exact ⟨ret_int (W_mul a b), rfl⟩
theorem refMul_any (a b : Int) (w : World) : Calls Try.prog 53 #[.int .i64 a, .int .i64 b] w fun e w' => e = .returned (.int .i64 (W (a * b))) ∧ w = w' := by
  go_enter Try.func53, Try.ntmps53
  go_wp2
  go_ret
  exact ⟨ret_int (W_mul a b), rfl⟩
theorem less_any (a b : Int) (w : World) : Calls Try.prog 56 #[.int .i64 a, .int .i64 b] w fun e w' => e = .returned (.bool (decide (S a < S b))) ∧ w = w' := by
  go_enter Try.func56, Try.ntmps56
  go_wp2
  go_ret
  exact ⟨ret_bool (by rw [wrap32_W, wrap32_W]), rfl⟩
theorem below_any (a b : Int) (w : World) : Calls Try.prog 57 #[.int .i64 a, .int .i64 b] w fun e w' => e = .returned (.bool (decide (W a < W b))) ∧ w = w' := by
  go_enter Try.func57, Try.ntmps57
  go_wp2
  go_ret
  exact ⟨ret_bool rfl, rfl⟩
theorem left_any (a n : Int) (w : World) : Calls Try.prog 65 #[.int .i64 a, .int .i64 n] w fun e w' => e = .returned (.int .i64 (shl a n)) ∧ w = w' := by
  have h1 := and_31 n
  go_enter Try.func65, Try.ntmps65
  go_wp2
  go_ret
  exact ⟨ret_int (shl_of a n), rfl⟩
theorem right_any (a n : Int) (w : World) : Calls Try.prog 68 #[.int .i64 a, .int .i64 n] w fun e w' => e = .returned (.int .i64 (shr a n)) ∧ w = w' := by
  have h1 := and_31 n
  go_enter Try.func68, Try.ntmps68
  go_wp2
  go_ret
  exact ⟨ret_int (shr_of a n), rfl⟩
theorem arith_any (a n : Int) (w : World) : Calls Try.prog 69 #[.int .i64 a, .int .i64 n] w fun e w' => e = .returned (.int .i64 (sra a n)) ∧ w = w' := by
  have h1 := and_31 n
  have h2 := S_bd a
  go_enter Try.func69, Try.ntmps69
  go_wp2_with (first | (go_at_call 77; refine (signed_any _ _).mono ?_; rintro e w' ⟨rfl, rfl⟩) | (go_at_call 33; refine (of_any _ _).mono ?_; rintro e w' ⟨rfl, rfl⟩))
  go_ret
  exact ⟨ret_int rfl, rfl⟩
theorem refLeft_any (a n : Int) (w : World) : Calls Try.prog 50 #[.int .i64 a, .int .i64 n] w fun e w' => e = .returned (.int .i64 (shl a n)) ∧ w = w' := by
  have h1 := and_31 n
  go_enter Try.func50, Try.ntmps50
  go_wp2_with (go_at_call 17; refine (refW_any _ _).mono ?_; rintro e w' ⟨rfl, rfl⟩)
  go_ret
  exact ⟨ret_int (shl_of' a n), rfl⟩
theorem refRight_any (a n : Int) (w : World) : Calls Try.prog 51 #[.int .i64 a, .int .i64 n] w fun e w' => e = .returned (.int .i64 (shr a n)) ∧ w = w' := by
  have h1 := and_31 n
  go_enter Try.func51, Try.ntmps51
  go_wp2_with (go_at_call 17; refine (refW_any _ _).mono ?_; rintro e w' ⟨rfl, rfl⟩)
  go_ret
  exact ⟨ret_int rfl, rfl⟩
theorem refArith_any (a n : Int) (w : World) : Calls Try.prog 52 #[.int .i64 a, .int .i64 n] w fun e w' => e = .returned (.int .i64 (sra a n)) ∧ w = w' := by
  have h1 := and_31 n
  have h2 := S_bd a
  go_enter Try.func52, Try.ntmps52
  go_wp2_with (first | (go_at_call 18; refine (refSigned_any _ _).mono ?_; rintro e w' ⟨rfl, rfl⟩) | (go_at_call 17; refine (refW_any _ _).mono ?_; rintro e w' ⟨rfl, rfl⟩))
  go_ret
  exact ⟨ret_int rfl, rfl⟩
theorem div_any (a b : Int) (w : World) : Calls Try.prog 72 #[.int .i64 a, .int .i64 b] w fun e w' => e = .returned (.int .i64 (qdiv a b)) ∧ w = w' := by
  by_cases h : b % 4294967296 = 0
  · have h1 : (b % 4294967296 == 0) = true := by simp [h]
    have hq : qdiv a b = 4294967295 := if_pos h
    rw [hq]; clear hq h
    go_enter Try.func72, Try.ntmps72
    go_wp2_with (go_at_call 33; refine (of_any _ _).mono ?_; rintro e w' ⟨rfl, rfl⟩)
    go_ret
    exact ⟨rfl, rfl⟩
  · have h1 : (b % 4294967296 == 0) = false := by simp [h]
    have h2 : 1 ≤ b % 4294967296 := by omega
    have hq : qdiv a b = a % 4294967296 / (b % 4294967296) := if_neg h
    rw [hq]; clear hq h
    have hd := div_bd (a % 4294967296) (b % 4294967296) 4294967295 (by omega) (by omega) (by omega)
    go_enter Try.func72, Try.ntmps72
    go_wp2
    go_ret
    exact ⟨rfl, rfl⟩
theorem rem_any (a b : Int) (w : World) : Calls Try.prog 73 #[.int .i64 a, .int .i64 b] w fun e w' => e = .returned (.int .i64 (rrem a b)) ∧ w = w' := by
  by_cases h : b % 4294967296 = 0
  · have h1 : (b % 4294967296 == 0) = true := by simp [h]
    have hq : rrem a b = W a := if_pos h
    rw [hq]; clear hq h
    go_enter Try.func73, Try.ntmps73
    go_wp2_with (go_at_call 33; refine (of_any _ _).mono ?_; rintro e w' ⟨rfl, rfl⟩)
    go_ret
    exact ⟨rfl, rfl⟩
  · have h1 : (b % 4294967296 == 0) = false := by simp [h]
    have h2 : 1 ≤ b % 4294967296 := by omega
    have hq : rrem a b = a % 4294967296 % (b % 4294967296) := if_neg h
    rw [hq]; clear hq h
    have hd : 0 ≤ a % 4294967296 % (b % 4294967296) := Int.emod_nonneg _ (by omega)
    have hd2 : a % 4294967296 % (b % 4294967296) < b % 4294967296 := Int.emod_lt_of_pos _ (by omega)
    go_enter Try.func73, Try.ntmps73
    go_wp2
    go_ret
    exact ⟨rfl, rfl⟩
theorem refDiv_any (a b : Int) (w : World) : Calls Try.prog 54 #[.int .i64 a, .int .i64 b] w fun e w' => e = .returned (.int .i64 (qdiv a b)) ∧ w = w' := by
  have ha := W_bd a
  have hb := W_bd b
  by_cases h : W b = 0
  · have h1 : (W b == 0) = true := by simp [h]
    have hq : qdiv a b = 4294967295 := if_pos h
    rw [hq]; clear hq h
    go_enter Try.func54, Try.ntmps54
    go_wp2_with (go_at_call 17; refine (refW_any _ _).mono ?_; rintro e w' ⟨rfl, rfl⟩)
    go_ret
    exact ⟨rfl, rfl⟩
  · have h1 : (W b == 0) = false := by simp [h]
    have h2 : 1 ≤ W b := by omega
    have hq : qdiv a b = W a / W b := if_neg h
    rw [hq]; clear hq h
    go_enter Try.func54, Try.ntmps54
    go_wp2_with (go_at_call 17; refine (refW_any _ _).mono ?_; rintro e w' ⟨rfl, rfl⟩)
    go_ret
    exact ⟨rfl, rfl⟩
theorem refRem_any (a b : Int) (w : World) : Calls Try.prog 55 #[.int .i64 a, .int .i64 b] w fun e w' => e = .returned (.int .i64 (rrem a b)) ∧ w = w' := by
  have ha := W_bd a
  have hb := W_bd b
  by_cases h : W b = 0
  · have h1 : (W b == 0) = true := by simp [h]
    have hq : rrem a b = W a := if_pos h
    rw [hq]; clear hq h
    go_enter Try.func55, Try.ntmps55
    go_wp2_with (go_at_call 17; refine (refW_any _ _).mono ?_; rintro e w' ⟨rfl, rfl⟩)
    go_ret
    exact ⟨rfl, rfl⟩
  · have h1 : (W b == 0) = false := by simp [h]
    have h2 : 1 ≤ W b := by omega
    have hq : rrem a b = W a % W b := if_neg h
    rw [hq]; clear hq h
    go_enter Try.func55, Try.ntmps55
    go_wp2_with (go_at_call 17; refine (refW_any _ _).mono ?_; rintro e w' ⟨rfl, rfl⟩)
    go_ret
    exact ⟨rfl, rfl⟩
theorem extend_any (a n : Int) (w : World) : Calls Try.prog 32 #[.int .i64 a, .int .i64 n] w fun e w' => e = .returned (.int .i64 (ext a n)) ∧ w = w' := by
  by_cases h1 : n < 1
  · rw [ext_zero a n h1]
    go_enter Try.func32, Try.ntmps32
    go_wp2_with fail
    go_ret
    exact ⟨rfl, rfl⟩
  · by_cases h2 : n ≤ 32
    · rw [ext_eq a n (by omega) h2]
      have h3 : 1 ≤ n := by omega
      clear h1
      go_enter Try.func32, Try.ntmps32
      go_wp2_with (go_at_call 33; refine (of_any _ _).mono ?_; rintro e w' ⟨rfl, rfl⟩)
      go_ret
      exact ⟨ret_int (by rw [← ext_of a n.toNat (by omega) (by omega), show (32 - n).toNat = 32 - n.toNat by omega]), rfl⟩
    · rw [ext_big a n (by omega)]
      have h3 : 32 < n := by omega
      clear h1 h2
      go_enter Try.func32, Try.ntmps32
      go_wp2_with (go_at_call 33; refine (of_any _ _).mono ?_; rintro e w' ⟨rfl, rfl⟩)
      go_ret
      exact ⟨ret_int (by rw [W_wrap, wrap32_W, W_S]), rfl⟩
theorem refExtend_any (a n : Int) (w : World) : Calls Try.prog 34 #[.int .i64 a, .int .i64 n] w fun e w' => e = .returned (.int .i64 (ext a n)) ∧ w = w' := by
  by_cases h1 : n < 1
  · rw [ext_zero a n h1]
    go_enter Try.func34, Try.ntmps34
    go_wp2_with fail
    go_ret
    exact ⟨rfl, rfl⟩
  · by_cases h2 : n ≤ 32
    · rw [ext_eq a n (by omega) h2]
      have h3 : 1 ≤ n := by omega
      clear h1
      go_enter Try.func34, Try.ntmps34
      go_wp2_with (go_at_call 17; refine (refW_any _ _).mono ?_; rintro e w' ⟨rfl, rfl⟩)
      · go_ret
        exact ⟨ret_int (refExt_hi a n.toNat (by omega) (by omega) (by assumption)), rfl⟩
      · go_ret
        exact ⟨ret_int (refExt_lo a n.toNat (by omega) (by omega) (by assumption)), rfl⟩
    · rw [ext_big a n (by omega)]
      have h3 : 32 < n := by omega
      clear h1 h2
      have h4 := and_word a
      go_enter Try.func34, Try.ntmps34
      go_wp2_with (go_at_call 17; refine (refW_any _ _).mono ?_; rintro e w' ⟨rfl, rfl⟩)
      · go_ret
        exact ⟨ret_int (by rw [W_wrap]; unfold W; omega), rfl⟩
      · go_ret
        exact ⟨ret_int (W_W a), rfl⟩
end Go.Proofs.Ytodkenbkogfefaa
