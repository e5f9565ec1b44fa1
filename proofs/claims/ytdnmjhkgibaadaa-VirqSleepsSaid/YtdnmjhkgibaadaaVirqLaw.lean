/- How long a machine sleeps whose control registers are written out, as plain numbers; that the law's own example holds. -/
import Derived.Test.YtdnmjhkgibaadaaSkip
namespace Go.Proofs.Ytdnmjhkgibaadaa
open Go.RowKit

def lit11 (a b : Int) (k : Nat) : Int := ([4, 0, 0, 0, 0, 0, 0, a, b, 0, 1] : List Int).getD k 0
theorem ints11 (w : World) (a b : Int) (t : TypeId) : IntsAt (w.alloc (.cells #[.int .i64 4, .int .i64 0, .int .i64 0, .int .i64 0, .int .i64 0, .int .i64 0, .int .i64 0, .int .i64 a, .int .i64 b, .int .i64 0, .int .i64 1] t)) (some ⟨w.heap.size, 0, none⟩) 11 (lit11 a b) := by
  intro k hk
  refine ⟨_, _, rfl, ?_⟩
  rw [Nat.zero_add, World.cell?_alloc_new]
  rcases (show k = 0 ∨ k = 1 ∨ k = 2 ∨ k = 3 ∨ k = 4 ∨ k = 5 ∨ k = 6 ∨ k = 7 ∨ k = 8 ∨ k = 9 ∨ k = 10 by omega) with rfl | rfl | rfl | rfl | rfl | rfl | rfl | rfl | rfl | rfl | rfl <;> rfl
theorem pend_of (t c wt ms : Int) (ht : 0 ≤ t) (htc : t ≤ c) (hc0 : 0 < c) (hc : c ≤ 2147483648) : pendI t c wt ms % 2 = (if t = c then 1 else 0) := by
  have h1 : W c = c := W_of c (by omega)
  have h2 : W t = t := W_of t (by omega)
  unfold pendI
  rw [h1, h2]
  by_cases h : t = c
  · rw [if_pos (show c ≠ 0 ∧ c ≤ t by omega), if_pos h]
    split <;> split <;> omega
  · rw [if_neg (show ¬ (c ≠ 0 ∧ c ≤ t) by omega), if_neg h]
    split <;> split <;> omega
theorem slp_of (f : Nat → Int) (nc : Nat) (wt ms t c : Int) (h10 : cv f nc 10 = 1) (h0 : cv f nc 0 = 4) (h7 : cv f nc 7 = t) (h8 : cv f nc 8 = c) (ht : 0 ≤ t) (htc : t ≤ c) (hc0 : 0 < c) (hc : c ≤ 2147483648) :
    slp f nc wt ms = (c - t, true) := by
  unfold slp
  rw [h10, h0, h7, h8, and_1, pend_of t c wt ms ht htc hc0 hc]
  by_cases h : t = c
  · rw [if_pos h, if_pos (by simp)]; simp; omega
  · rw [if_neg h, if_neg (by simp), if_neg (by simp; omega), W_of _ (by omega)]
set_option maxHeartbeats 1000000 in
theorem alive20 (w : World) : Calls Try.prog 6 #[] w fun e w' => e = .returned (.bool true) ∧ Below w.heap.size w w' := by
  have hs : slp (lit11 5 9) 11 0 0 = (4, true) := by decide
  have hi := (ints11 w 5 9 3).alloc (.cells #[.slice none 0 0, .int .i64 0, .slice (some ⟨w.heap.size, 0, none⟩) 11 11, .bool false, .bool false, .slice none 0 0] 43)
  have HI := Lib.hid hi
  have HS := Lib.hid hs
  clear hi hs
  go_enter Try.func6, Try.ntmps6
  go_wp2_with fail
  refine (vsleep_any _ _ _ _ _ _ _ _ _ (lit11 5 9) _ _ HI.out (by omega)).mono ?_
  rintro e w1 ⟨rfl, hb1⟩
  rw [HS.out]
  have HB := Lib.hid ((((Below.refl w.heap.size w).alloc (Nat.le_refl _) _).alloc (by simp) _).trans (hb1.mono (by simp; omega)))
  clear hb1
  go_wp2_with fail
  go_ret
  exact ⟨rfl, HB.out⟩
end Go.Proofs.Ytdnmjhkgibaadaa
