/- What package csr and the reference's control registers compute, of every number: each call returns the plain number that is written there and changes nothing. No conditions. -/
import Derived.Test.YtdnmjhkgibaadaaWord
namespace Go.Proofs.Ytdnmjhkgibaadaa
open Go.RowKit

/-- Status as a trap, and as sret, leaves it; whether it is a user's; the bits that a write changes; what a write leaves. -/
def enterS (s : Int) : Int := 4 + 2 * (s % 2) + 8 * (s / 4 % 2)
def leaveS (s : Int) : Int := 2 + s / 2 % 2 + 4 * (s / 8 % 2)
def maskI (n : Int) : Int :=
  if n = 0 then 11 else if n = 1 ∨ n = 2 then 4294967292 else if n = 3 ∨ n = 4 ∨ n = 5 ∨ n = 8 then 4294967295 else if n = 6 then 2148532223 else if n = 10 then 7 else 0
def wrB (m old v : BitVec 64) : BitVec 64 := ((old &&& ~~~m) ||| (v &&& m)) &&& 4294967295#64
def wr (n old v : Int) : Int := (wrB (B (maskI n)) (B old) (B v)).toInt

theorem bit_cases (n : Int) : n % 2 = 0 ∨ n % 2 = 1 := by omega

theorem refEnter_any (s : Int) (w : World) : Calls Try.prog 52 #[.int .i64 s] w fun e w' => e = .returned (.int .i64 (enterS s)) ∧ w = w' := by
  unfold enterS
  have h1 := and_1 s
  have h4 := and_4 s
  rcases bit_cases s with k1 | k1 <;> rcases bit_cases (s / 4) with k4 | k4 <;> rw [k1] at h1 <;> rw [k4] at h4 <;> rw [k1, k4] <;> clear k1 k4
  all_goals
    go_enter Try.func52, Try.ntmps52
    go_wp2
    go_ret
    exact ⟨ret_int (by decide), rfl⟩
theorem refLeave_any (s : Int) (w : World) : Calls Try.prog 47 #[.int .i64 s] w fun e w' => e = .returned (.int .i64 (leaveS s)) ∧ w = w' := by
  unfold leaveS
  have h1 := and_2 s
  have h4 := and_8 s
  rcases bit_cases (s / 2) with k1 | k1 <;> rcases bit_cases (s / 8) with k4 | k4 <;> rw [k1] at h1 <;> rw [k4] at h4 <;> rw [k1, k4] <;> clear k1 k4
  all_goals
    go_enter Try.func47, Try.ntmps47
    go_wp2
    go_ret
    exact ⟨ret_int (by decide), rfl⟩
theorem user_any (s : Int) (w : World) : Calls Try.prog 23 #[.int .i64 s] w fun e w' => e = .returned (.bool (s / 4 % 2 == 0)) ∧ w = w' := by
  have h4 := and_4 s
  rcases bit_cases (s / 4) with k4 | k4 <;> rw [k4] at h4 <;> rw [k4] <;> clear k4
  all_goals
    go_enter Try.func23, Try.ntmps23
    go_wp2
    go_ret
    exact ⟨ret_bool (by decide), rfl⟩
theorem mask_cases (n : Int) : (n = 0 ∨ n = 1 ∨ n = 2 ∨ n = 3 ∨ n = 4 ∨ n = 5 ∨ n = 6 ∨ n = 8 ∨ n = 10) ∨ (maskI n = 0 ∧ n ≠ 0 ∧ n ≠ 1 ∧ n ≠ 2 ∧ n ≠ 3 ∧ n ≠ 4 ∧ n ≠ 5 ∧ n ≠ 6 ∧ n ≠ 8 ∧ n ≠ 10) := by
  by_cases h : n = 0 ∨ n = 1 ∨ n = 2 ∨ n = 3 ∨ n = 4 ∨ n = 5 ∨ n = 6 ∨ n = 8 ∨ n = 10
  · exact Or.inl h
  · refine Or.inr ⟨?_, ?_⟩
    · unfold maskI; rw [if_neg (by omega), if_neg (by omega), if_neg (by omega), if_neg (by omega), if_neg (by omega)]
    · omega
theorem refMask_any (n : Int) (w : World) : Calls Try.prog 68 #[.int .i64 n] w fun e w' => e = .returned (.int .i64 (maskI n)) ∧ w = w' := by
  rcases mask_cases n with h | ⟨h, g⟩
  · rcases h with rfl | rfl | rfl | rfl | rfl | rfl | rfl | rfl | rfl
    all_goals
      go_enter Try.func68, Try.ntmps68
      go_wp2
      go_ret
      exact ⟨ret_int (by decide), rfl⟩
  · rw [h]; clear h
    obtain ⟨g0, g1, g2, g3, g4, g5, g6, g8, g10⟩ := g
    go_enter Try.func68, Try.ntmps68
    go_wp2
    go_ret
    exact ⟨rfl, rfl⟩
theorem mask_word (n : Int) : B (maskI n) &&& 4294967295#64 = B (maskI n) := by
  rcases mask_cases n with h | ⟨h, g⟩
  · rcases h with rfl | rfl | rfl | rfl | rfl | rfl | rfl | rfl | rfl <;> decide
  · rw [h]; decide
theorem wr_prog (m old v : BitVec 64) : (((old &&& ~~~m) ||| (v &&& m)) &&& 4294967295#64) = wrB m old v := rfl
theorem wr_ref (m old v : BitVec 64) (h : m &&& 4294967295#64 = m) : ((old &&& 4294967295#64) &&& ~~~m) ||| (v &&& m) = wrB m old v := by
  unfold wrB
  conv => lhs; rhs; rw [← h]
  ext i hi
  simp only [BitVec.getElem_or, BitVec.getElem_and, BitVec.getElem_not]
  cases old[i] <;> cases v[i] <;> cases m[i] <;> cases (4294967295#64)[i] <;> rfl
theorem wr_W (n old v : Int) : wr n old v = W ((B old &&& ~~~B (maskI n)) ||| (B v &&& B (maskI n))).toInt := by
  rw [W_B, B_toInt]; rfl
theorem wr_bd (n old v : Int) : 0 ≤ wr n old v ∧ wr n old v ≤ 4294967295 := by rw [wr_W]; exact W_bd _
theorem refWrite_any (n old v : Int) (w : World) : Calls Try.prog 48 #[.int .i64 n, .int .i64 old, .int .i64 v] w fun e w' => e = .returned (.int .i64 (wr n old v)) ∧ w = w' := by
  go_enter Try.func48, Try.ntmps48
  go_wp2_with (first | (go_at_call 68; refine (refMask_any _ _).mono ?_; rintro e w' ⟨rfl, rfl⟩) | (go_at_call 19; refine (refW_any _ _).mono ?_; rintro e w' ⟨rfl, rfl⟩))
  go_ret
  exact ⟨ret_int (by rw [W_B, orB, andNotB, andB, B_toInt, B_toInt, B_toInt, wr_ref _ _ _ (mask_word n)]; rfl), rfl⟩
end Go.Proofs.Ytdnmjhkgibaadaa
