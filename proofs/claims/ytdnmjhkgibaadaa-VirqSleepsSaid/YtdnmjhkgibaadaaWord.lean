/- What package word and the reference's words compute, of every number: each call returns the plain number that is written there and changes nothing. No conditions. -/
import Derived.Test.YtdnmjhkgibaadaaRows
import Derived.Test.YtdnmjhkgibaadaaPlain
import Derived.WalkKit
import Derived.WalkLawsBesides
namespace Go.Proofs.Ytdnmjhkgibaadaa
open Go.RowKit

theorem ret_int {k : IntKind} {a b : Int} (h : a = b) : Ending.returned (.int k a) = .returned (.int k b) := by rw [h]
theorem ret_bool {a b : Bool} (h : a = b) : Ending.returned (.bool a) = .returned (.bool b) := by rw [h]

theorem of_any (a : Int) (w : World) : Calls Try.prog 33 #[.int .i64 a] w fun e w' => e = .returned (.int .i64 (W a)) ∧ w = w' := by
  go_enter Try.func33, Try.ntmps33
  go_wp2
  go_ret
  exact ⟨rfl, rfl⟩
theorem refW_any (a : Int) (w : World) : Calls Try.prog 19 #[.int .i64 a] w fun e w' => e = .returned (.int .i64 (W a)) ∧ w = w' := by
  go_enter Try.func19, Try.ntmps19
  go_wp2
  go_ret
  exact ⟨ret_int (and_word a), rfl⟩
theorem refSigned_any (a : Int) (w : World) : Calls Try.prog 53 #[.int .i64 a] w fun e w' => e = .returned (.int .i64 (S a)) ∧ w = w' := by
  have h1 := and_word a
  have h2 := W_bd a
  have h3 := S_eq a
  by_cases h : 2147483647 < W a
  · rw [if_pos h] at h3
    rw [h3]
    clear h3
    go_enter Try.func53, Try.ntmps53
    go_wp2
    go_ret
    exact ⟨rfl, rfl⟩
  · rw [if_neg h] at h3
    rw [h3]
    clear h3
    go_enter Try.func53, Try.ntmps53
    go_wp2
    go_ret
    exact ⟨rfl, rfl⟩
theorem add_any (a b : Int) (w : World) : Calls Try.prog 31 #[.int .i64 a, .int .i64 b] w fun e w' => e = .returned (.int .i64 (W (a + b))) ∧ w = w' := by
  go_enter Try.func31, Try.ntmps31
  go_wp2
  go_ret
  exact ⟨rfl, rfl⟩
theorem sub_any (a b : Int) (w : World) : Calls Try.prog 24 #[.int .i64 a, .int .i64 b] w fun e w' => e = .returned (.int .i64 (W (a - b))) ∧ w = w' := by
  go_enter Try.func24, Try.ntmps24
  go_wp2
  go_ret
  exact ⟨rfl, rfl⟩
theorem refMul_any (a b : Int) (w : World) : Calls Try.prog 59 #[.int .i64 a, .int .i64 b] w fun e w' => e = .returned (.int .i64 (W (a * b))) ∧ w = w' := by
  go_enter Try.func59, Try.ntmps59
  go_wp2
  go_ret
  exact ⟨ret_int (W_mul a b), rfl⟩
theorem below_any (a b : Int) (w : World) : Calls Try.prog 49 #[.int .i64 a, .int .i64 b] w fun e w' => e = .returned (.bool (decide (W a < W b))) ∧ w = w' := by
  go_enter Try.func49, Try.ntmps49
  go_wp2
  go_ret
  exact ⟨ret_bool rfl, rfl⟩
theorem refLeft_any (a n : Int) (w : World) : Calls Try.prog 56 #[.int .i64 a, .int .i64 n] w fun e w' => e = .returned (.int .i64 (shl a n)) ∧ w = w' := by
  have h1 := and_31 n
  go_enter Try.func56, Try.ntmps56
  go_wp2_with (go_at_call 19; refine (refW_any _ _).mono ?_; rintro e w' ⟨rfl, rfl⟩)
  go_ret
  exact ⟨ret_int (shl_of' a n), rfl⟩
theorem refRight_any (a n : Int) (w : World) : Calls Try.prog 57 #[.int .i64 a, .int .i64 n] w fun e w' => e = .returned (.int .i64 (shr a n)) ∧ w = w' := by
  have h1 := and_31 n
  go_enter Try.func57, Try.ntmps57
  go_wp2_with (go_at_call 19; refine (refW_any _ _).mono ?_; rintro e w' ⟨rfl, rfl⟩)
  go_ret
  exact ⟨ret_int rfl, rfl⟩
theorem refArith_any (a n : Int) (w : World) : Calls Try.prog 58 #[.int .i64 a, .int .i64 n] w fun e w' => e = .returned (.int .i64 (sra a n)) ∧ w = w' := by
  have h1 := and_31 n
  have h2 := S_bd a
  go_enter Try.func58, Try.ntmps58
  go_wp2_with (first | (go_at_call 53; refine (refSigned_any _ _).mono ?_; rintro e w' ⟨rfl, rfl⟩) | (go_at_call 19; refine (refW_any _ _).mono ?_; rintro e w' ⟨rfl, rfl⟩))
  go_ret
  exact ⟨ret_int rfl, rfl⟩
theorem refDiv_any (a b : Int) (w : World) : Calls Try.prog 60 #[.int .i64 a, .int .i64 b] w fun e w' => e = .returned (.int .i64 (qdiv a b)) ∧ w = w' := by
  have ha := W_bd a
  have hb := W_bd b
  by_cases h : W b = 0
  · have h1 : (W b == 0) = true := by simp [h]
    have hq : qdiv a b = 4294967295 := if_pos h
    rw [hq]; clear hq h
    go_enter Try.func60, Try.ntmps60
    go_wp2_with (go_at_call 19; refine (refW_any _ _).mono ?_; rintro e w' ⟨rfl, rfl⟩)
    go_ret
    exact ⟨rfl, rfl⟩
  · have h1 : (W b == 0) = false := by simp [h]
    have h2 : 1 ≤ W b := by omega
    have hq : qdiv a b = W a / W b := if_neg h
    rw [hq]; clear hq h
    go_enter Try.func60, Try.ntmps60
    go_wp2_with (go_at_call 19; refine (refW_any _ _).mono ?_; rintro e w' ⟨rfl, rfl⟩)
    go_ret
    exact ⟨rfl, rfl⟩
theorem refRem_any (a b : Int) (w : World) : Calls Try.prog 61 #[.int .i64 a, .int .i64 b] w fun e w' => e = .returned (.int .i64 (rrem a b)) ∧ w = w' := by
  have ha := W_bd a
  have hb := W_bd b
  by_cases h : W b = 0
  · have h1 : (W b == 0) = true := by simp [h]
    have hq : rrem a b = W a := if_pos h
    rw [hq]; clear hq h
    go_enter Try.func61, Try.ntmps61
    go_wp2_with (go_at_call 19; refine (refW_any _ _).mono ?_; rintro e w' ⟨rfl, rfl⟩)
    go_ret
    exact ⟨rfl, rfl⟩
  · have h1 : (W b == 0) = false := by simp [h]
    have h2 : 1 ≤ W b := by omega
    have hq : rrem a b = W a % W b := if_neg h
    rw [hq]; clear hq h
    go_enter Try.func61, Try.ntmps61
    go_wp2_with (go_at_call 19; refine (refW_any _ _).mono ?_; rintro e w' ⟨rfl, rfl⟩)
    go_ret
    exact ⟨rfl, rfl⟩
theorem refExtend_any (a n : Int) (w : World) : Calls Try.prog 54 #[.int .i64 a, .int .i64 n] w fun e w' => e = .returned (.int .i64 (ext a n)) ∧ w = w' := by
  by_cases h1 : n < 1
  · rw [ext_zero a n h1]
    go_enter Try.func54, Try.ntmps54
    go_wp2_with fail
    go_ret
    exact ⟨rfl, rfl⟩
  · by_cases h2 : n ≤ 32
    · rw [ext_eq a n (by omega) h2]
      have h3 : 1 ≤ n := by omega
      clear h1
      go_enter Try.func54, Try.ntmps54
      go_wp2_with (go_at_call 19; refine (refW_any _ _).mono ?_; rintro e w' ⟨rfl, rfl⟩)
      · go_ret
        exact ⟨ret_int (refExt_hi a n.toNat (by omega) (by omega) (by assumption)), rfl⟩
      · go_ret
        exact ⟨ret_int (refExt_lo a n.toNat (by omega) (by omega) (by assumption)), rfl⟩
    · rw [ext_big a n (by omega)]
      have h3 : 32 < n := by omega
      clear h1 h2
      have h4 := and_word a
      go_enter Try.func54, Try.ntmps54
      go_wp2_with (go_at_call 19; refine (refW_any _ _).mono ?_; rintro e w' ⟨rfl, rfl⟩)
      · go_ret
        exact ⟨ret_int (by rw [W_wrap]; unfold W; omega), rfl⟩
      · go_ret
        exact ⟨ret_int (W_W a), rfl⟩
end Go.Proofs.Ytdnmjhkgibaadaa
