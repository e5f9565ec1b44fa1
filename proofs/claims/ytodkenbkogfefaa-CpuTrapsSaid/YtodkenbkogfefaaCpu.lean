/- What package cpu and the reference compute of operations, branches, loads: each call returns the plain values that are written there and changes nothing that was there. No conditions. -/
import Derived.Test.YtodkenbkogfefaaWord
import Derived.Laws.EntriesVeiled
import Derived.LoopTactic
import Derived.Lib.Hide
namespace Go.Proofs.Ytodkenbkogfefaa
open Go.RowKit

theorem btrans {a b c : World} (h1 : Below a.heap.size a b) (h2 : Below b.heap.size b c) : Below a.heap.size a c := h1.trans (h2.mono h1.size)
def bitI (b : Bool) : Int := if b then 1 else 0
theorem bit_any (b : Bool) (w : World) : Calls Try.prog 71 #[.bool b] w fun e w' => e = .returned (.int .i64 (bitI b)) ∧ w = w' := by
  cases b
  all_goals
    go_enter Try.func71, Try.ntmps71
    go_wp2
    go_ret
    exact ⟨rfl, rfl⟩
theorem m_add (x y : Int) (w : World) : Calls Try.prog 37 #[.agg #[.int .i64 x, .int .i64 y]] w fun e w' => e = .returned (.int .i64 (W (x + y))) ∧ Below w.heap.size w w' := by
  go_enter Try.func37, Try.ntmps37
  go_wp2_with (first | (go_at_call 66; refine (add_any _ _ _).mono ?_; rintro e w' ⟨rfl, rfl⟩))
  go_ret
  exact ⟨rfl, (Below.refl _ _).alloc (Nat.le_refl _) _⟩
theorem m_sub (x y : Int) (w : World) : Calls Try.prog 38 #[.agg #[.int .i64 x, .int .i64 y]] w fun e w' => e = .returned (.int .i64 (W (x - y))) ∧ Below w.heap.size w w' := by
  go_enter Try.func38, Try.ntmps38
  go_wp2_with (first | (go_at_call 67; refine (sub_any _ _ _).mono ?_; rintro e w' ⟨rfl, rfl⟩))
  go_ret
  exact ⟨rfl, (Below.refl _ _).alloc (Nat.le_refl _) _⟩
theorem m_and (x y : Int) (w : World) : Calls Try.prog 39 #[.agg #[.int .i64 x, .int .i64 y]] w fun e w' => e = .returned (.int .i64 (W (bits .and .i64 x y))) ∧ Below w.heap.size w w' := by
  go_enter Try.func39, Try.ntmps39
  go_wp2_with (first | (go_at_call 33; refine (of_any _ _).mono ?_; rintro e w' ⟨rfl, rfl⟩))
  go_ret
  exact ⟨rfl, (Below.refl _ _).alloc (Nat.le_refl _) _⟩
theorem m_or (x y : Int) (w : World) : Calls Try.prog 40 #[.agg #[.int .i64 x, .int .i64 y]] w fun e w' => e = .returned (.int .i64 (W (bits .or .i64 x y))) ∧ Below w.heap.size w w' := by
  go_enter Try.func40, Try.ntmps40
  go_wp2_with (first | (go_at_call 33; refine (of_any _ _).mono ?_; rintro e w' ⟨rfl, rfl⟩))
  go_ret
  exact ⟨rfl, (Below.refl _ _).alloc (Nat.le_refl _) _⟩
theorem m_xor (x y : Int) (w : World) : Calls Try.prog 41 #[.agg #[.int .i64 x, .int .i64 y]] w fun e w' => e = .returned (.int .i64 (W (bits .xor .i64 x y))) ∧ Below w.heap.size w w' := by
  go_enter Try.func41, Try.ntmps41
  go_wp2_with (first | (go_at_call 33; refine (of_any _ _).mono ?_; rintro e w' ⟨rfl, rfl⟩))
  go_ret
  exact ⟨rfl, (Below.refl _ _).alloc (Nat.le_refl _) _⟩
theorem m_sll (x y : Int) (w : World) : Calls Try.prog 42 #[.agg #[.int .i64 x, .int .i64 y]] w fun e w' => e = .returned (.int .i64 (shl x y)) ∧ Below w.heap.size w w' := by
  go_enter Try.func42, Try.ntmps42
  go_wp2_with (first | (go_at_call 65; refine (left_any _ _ _).mono ?_; rintro e w' ⟨rfl, rfl⟩))
  go_ret
  exact ⟨rfl, (Below.refl _ _).alloc (Nat.le_refl _) _⟩
theorem m_srl (x y : Int) (w : World) : Calls Try.prog 43 #[.agg #[.int .i64 x, .int .i64 y]] w fun e w' => e = .returned (.int .i64 (shr x y)) ∧ Below w.heap.size w w' := by
  go_enter Try.func43, Try.ntmps43
  go_wp2_with (first | (go_at_call 68; refine (right_any _ _ _).mono ?_; rintro e w' ⟨rfl, rfl⟩))
  go_ret
  exact ⟨rfl, (Below.refl _ _).alloc (Nat.le_refl _) _⟩
theorem m_sra (x y : Int) (w : World) : Calls Try.prog 44 #[.agg #[.int .i64 x, .int .i64 y]] w fun e w' => e = .returned (.int .i64 (sra x y)) ∧ Below w.heap.size w w' := by
  go_enter Try.func44, Try.ntmps44
  go_wp2_with (first | (go_at_call 69; refine (arith_any _ _ _).mono ?_; rintro e w' ⟨rfl, rfl⟩))
  go_ret
  exact ⟨rfl, (Below.refl _ _).alloc (Nat.le_refl _) _⟩
theorem m_mul (x y : Int) (w : World) : Calls Try.prog 45 #[.agg #[.int .i64 x, .int .i64 y]] w fun e w' => e = .returned (.int .i64 (W (x * y))) ∧ Below w.heap.size w w' := by
  go_enter Try.func45, Try.ntmps45
  go_wp2_with (first | (go_at_call 70; refine (mul_any _ _ _).mono ?_; rintro e w' ⟨rfl, rfl⟩))
  go_ret
  exact ⟨rfl, (Below.refl _ _).alloc (Nat.le_refl _) _⟩
theorem m_slt (x y : Int) (w : World) : Calls Try.prog 46 #[.agg #[.int .i64 x, .int .i64 y]] w fun e w' => e = .returned (.int .i64 (bitI (decide (S x < S y)))) ∧ Below w.heap.size w w' := by
  go_enter Try.func46, Try.ntmps46
  go_wp2_with (first | (go_at_call 56; refine (less_any _ _ _).mono ?_; rintro e w' ⟨rfl, rfl⟩) | (go_at_call 71; refine (bit_any _ _).mono ?_; rintro e w' ⟨rfl, rfl⟩))
  go_ret
  exact ⟨rfl, (Below.refl _ _).alloc (Nat.le_refl _) _⟩
theorem m_sltu (x y : Int) (w : World) : Calls Try.prog 47 #[.agg #[.int .i64 x, .int .i64 y]] w fun e w' => e = .returned (.int .i64 (bitI (decide (W x < W y)))) ∧ Below w.heap.size w w' := by
  go_enter Try.func47, Try.ntmps47
  go_wp2_with (first | (go_at_call 57; refine (below_any _ _ _).mono ?_; rintro e w' ⟨rfl, rfl⟩) | (go_at_call 71; refine (bit_any _ _).mono ?_; rintro e w' ⟨rfl, rfl⟩))
  go_ret
  exact ⟨rfl, (Below.refl _ _).alloc (Nat.le_refl _) _⟩
theorem m_divu (x y : Int) (w : World) : Calls Try.prog 48 #[.agg #[.int .i64 x, .int .i64 y]] w fun e w' => e = .returned (.int .i64 (qdiv x y)) ∧ Below w.heap.size w w' := by
  go_enter Try.func48, Try.ntmps48
  go_wp2_with (first | (go_at_call 72; refine (div_any _ _ _).mono ?_; rintro e w' ⟨rfl, rfl⟩))
  go_ret
  exact ⟨rfl, (Below.refl _ _).alloc (Nat.le_refl _) _⟩
theorem m_remu (x y : Int) (w : World) : Calls Try.prog 49 #[.agg #[.int .i64 x, .int .i64 y]] w fun e w' => e = .returned (.int .i64 (rrem x y)) ∧ Below w.heap.size w w' := by
  go_enter Try.func49, Try.ntmps49
  go_wp2_with (first | (go_at_call 73; refine (rem_any _ _ _).mono ?_; rintro e w' ⟨rfl, rfl⟩))
  go_ret
  exact ⟨rfl, (Below.refl _ _).alloc (Nat.le_refl _) _⟩
theorem m_lui (x y : Int) (w : World) : Calls Try.prog 36 #[.agg #[.int .i64 x, .int .i64 y]] w fun e w' => e = .returned (.int .i64 (shl y 16)) ∧ Below w.heap.size w w' := by
  go_enter Try.func36, Try.ntmps36
  go_wp2_with (first | (go_at_call 65; refine (left_any _ _ _).mono ?_; rintro e w' ⟨rfl, rfl⟩))
  go_ret
  exact ⟨rfl, (Below.refl _ _).alloc (Nat.le_refl _) _⟩

/-- The operation of registers that an operation is (0: none), and what each answers. -/
def baseI (op : Int) : Int :=
  if op = 16 then 1 else if op = 24 then 10 else if op = 23 then 23 else if 1 ≤ op ∧ op ≤ 13 then op else if 17 ≤ op ∧ op ≤ 22 then op - 14 else 0
def aluK (k x y : Int) : Int :=
  if k = 1 then W (x + y) else if k = 2 then W (x - y) else if k = 3 then W (bits .and .i64 x y) else if k = 4 then W (bits .or .i64 x y) else if k = 5 then W (bits .xor .i64 x y)
  else if k = 6 then shl x y else if k = 7 then shr x y else if k = 8 then sra x y else if k = 9 then W (x * y) else if k = 10 then bitI (decide (S x < S y)) else if k = 11 then bitI (decide (W x < W y))
  else if k = 12 then qdiv x y else if k = 13 then rrem x y else if k = 23 then shl y 16 else 0
def aluV (op x y : Int) : Int := aluK (baseI op) x y
def aluB (op : Int) : Bool := !(baseI op == 0)
theorem base_cases (op : Int) : baseI op = 0 ∨ baseI op = 1 ∨ baseI op = 2 ∨ baseI op = 3 ∨ baseI op = 4 ∨ baseI op = 5 ∨ baseI op = 6 ∨ baseI op = 7 ∨ baseI op = 8 ∨ baseI op = 9 ∨ baseI op = 10 ∨ baseI op = 11 ∨ baseI op = 12 ∨ baseI op = 13 ∨ baseI op = 23 := by
  unfold baseI
  by_cases h1 : op = 16
  · rw [if_pos h1]; omega
  rw [if_neg h1]
  by_cases h2 : op = 24
  · rw [if_pos h2]; omega
  rw [if_neg h2]
  by_cases h3 : op = 23
  · rw [if_pos h3]; omega
  rw [if_neg h3]
  by_cases h4 : 1 ≤ op ∧ op ≤ 13
  · rw [if_pos h4]; omega
  rw [if_neg h4]
  by_cases h5 : 17 ≤ op ∧ op ≤ 22
  · rw [if_pos h5]; omega
  rw [if_neg h5]; omega
theorem base_any (op : Int) (w : World) : Calls Try.prog 35 #[.int .i64 op] w fun e w' => e = .returned (.int .i64 (baseI op)) ∧ w = w' := by
  unfold baseI
  by_cases h1 : op = 16
  · rw [if_pos h1]; subst h1
    go_enter Try.func35, Try.ntmps35
    go_wp2
    go_ret
    exact ⟨rfl, rfl⟩
  rw [if_neg h1]
  by_cases h2 : op = 24
  · rw [if_pos h2]; subst h2
    go_enter Try.func35, Try.ntmps35
    go_wp2
    go_ret
    exact ⟨rfl, rfl⟩
  rw [if_neg h2]
  by_cases h3 : op = 23
  · rw [if_pos h3]; subst h3
    go_enter Try.func35, Try.ntmps35
    go_wp2
    go_ret
    exact ⟨rfl, rfl⟩
  rw [if_neg h3]
  have b1 : (op == 16) = false := by simp [h1]
  have b2 : (op == 24) = false := by simp [h2]
  have b3 : (op == 23) = false := by simp [h3]
  by_cases h4 : 1 ≤ op ∧ op ≤ 13
  · rw [if_pos h4]; obtain ⟨g1, g2⟩ := h4; clear h1 h2 h3
    go_enter Try.func35, Try.ntmps35
    go_wp2
    go_ret
    exact ⟨rfl, rfl⟩
  rw [if_neg h4]
  by_cases h5 : 17 ≤ op ∧ op ≤ 22
  · rw [if_pos h5]; obtain ⟨g1, g2⟩ := h5; clear h1 h2 h3 h4
    by_cases g3 : op ≤ 19
    all_goals
      go_enter Try.func35, Try.ntmps35
      go_wp2
      go_ret
      exact ⟨ret_int (by omega), rfl⟩
  rw [if_neg h5]
  by_cases g : op < 1
  · clear h1 h2 h3 h4 h5
    go_enter Try.func35, Try.ntmps35
    go_wp2
    go_ret
    exact ⟨rfl, rfl⟩
  by_cases g : op < 17
  · have g2 : 13 < op := by omega
    clear h1 h2 h3 h4 h5
    go_enter Try.func35, Try.ntmps35
    go_wp2
    go_ret
    exact ⟨rfl, rfl⟩
  · have g2 : 22 < op := by omega
    clear h1 h2 h3 h4 h5
    go_enter Try.func35, Try.ntmps35
    go_wp2
    go_ret
    exact ⟨rfl, rfl⟩

theorem alu_0 (op x y : Int) (w : World) (h : baseI op = 0) : Calls Try.prog 16 #[.int .i64 op, .int .i64 x, .int .i64 y] w fun e w' => e = .returned (.tuple #[.int .i64 0, .bool false]) ∧ Below w.heap.size w w' := by
  have hb := base_any op (w.alloc (.cells #[.int .i64 x, .int .i64 y] 48))
  rw [h] at hb
  have Hb := Lib.hid hb
  clear hb h
  go_enter Try.func16, Try.ntmps16
  go_wp2_with (go_at_call 35; refine (Hb.out).mono ?_; rintro e w' ⟨rfl, rfl⟩)
  go_ret2
  exact ⟨rfl, (Below.refl _ _).alloc (Nat.le_refl _) _⟩
theorem alu_1 (op x y : Int) (w : World) (h : baseI op = 1) : Calls Try.prog 16 #[.int .i64 op, .int .i64 x, .int .i64 y] w fun e w' => e = .returned (.tuple #[.int .i64 (W (x + y)), .bool true]) ∧ Below w.heap.size w w' := by
  have hb := base_any op (w.alloc (.cells #[.int .i64 x, .int .i64 y] 48))
  rw [h] at hb
  have Hb := Lib.hid hb
  clear hb h
  go_enter Try.func16, Try.ntmps16
  go_wp2_with (first | (go_at_call 35; refine (Hb.out).mono ?_; rintro e w' ⟨rfl, rfl⟩) | (go_at_call 37; refine (m_add _ _ _).mono ?_; rintro e w' ⟨rfl, hbe⟩))
  go_ret2
  exact ⟨rfl, (((Below.refl _ _).alloc (Nat.le_refl _) _).alloc (by simp) _).trans (hbe.mono (by simp; try omega))⟩
theorem alu_2 (op x y : Int) (w : World) (h : baseI op = 2) : Calls Try.prog 16 #[.int .i64 op, .int .i64 x, .int .i64 y] w fun e w' => e = .returned (.tuple #[.int .i64 (W (x - y)), .bool true]) ∧ Below w.heap.size w w' := by
  have hb := base_any op (w.alloc (.cells #[.int .i64 x, .int .i64 y] 48))
  rw [h] at hb
  have Hb := Lib.hid hb
  clear hb h
  go_enter Try.func16, Try.ntmps16
  go_wp2_with (first | (go_at_call 35; refine (Hb.out).mono ?_; rintro e w' ⟨rfl, rfl⟩) | (go_at_call 38; refine (m_sub _ _ _).mono ?_; rintro e w' ⟨rfl, hbe⟩))
  go_ret2
  exact ⟨rfl, (((Below.refl _ _).alloc (Nat.le_refl _) _).alloc (by simp) _).trans (hbe.mono (by simp; try omega))⟩
theorem alu_3 (op x y : Int) (w : World) (h : baseI op = 3) : Calls Try.prog 16 #[.int .i64 op, .int .i64 x, .int .i64 y] w fun e w' => e = .returned (.tuple #[.int .i64 (W (bits .and .i64 x y)), .bool true]) ∧ Below w.heap.size w w' := by
  have hb := base_any op (w.alloc (.cells #[.int .i64 x, .int .i64 y] 48))
  rw [h] at hb
  have Hb := Lib.hid hb
  clear hb h
  go_enter Try.func16, Try.ntmps16
  go_wp2_with (first | (go_at_call 35; refine (Hb.out).mono ?_; rintro e w' ⟨rfl, rfl⟩) | (go_at_call 39; refine (m_and _ _ _).mono ?_; rintro e w' ⟨rfl, hbe⟩))
  go_ret2
  exact ⟨rfl, (((Below.refl _ _).alloc (Nat.le_refl _) _).alloc (by simp) _).trans (hbe.mono (by simp; try omega))⟩
theorem alu_4 (op x y : Int) (w : World) (h : baseI op = 4) : Calls Try.prog 16 #[.int .i64 op, .int .i64 x, .int .i64 y] w fun e w' => e = .returned (.tuple #[.int .i64 (W (bits .or .i64 x y)), .bool true]) ∧ Below w.heap.size w w' := by
  have hb := base_any op (w.alloc (.cells #[.int .i64 x, .int .i64 y] 48))
  rw [h] at hb
  have Hb := Lib.hid hb
  clear hb h
  go_enter Try.func16, Try.ntmps16
  go_wp2_with (first | (go_at_call 35; refine (Hb.out).mono ?_; rintro e w' ⟨rfl, rfl⟩) | (go_at_call 40; refine (m_or _ _ _).mono ?_; rintro e w' ⟨rfl, hbe⟩))
  go_ret2
  exact ⟨rfl, (((Below.refl _ _).alloc (Nat.le_refl _) _).alloc (by simp) _).trans (hbe.mono (by simp; try omega))⟩
theorem alu_5 (op x y : Int) (w : World) (h : baseI op = 5) : Calls Try.prog 16 #[.int .i64 op, .int .i64 x, .int .i64 y] w fun e w' => e = .returned (.tuple #[.int .i64 (W (bits .xor .i64 x y)), .bool true]) ∧ Below w.heap.size w w' := by
  have hb := base_any op (w.alloc (.cells #[.int .i64 x, .int .i64 y] 48))
  rw [h] at hb
  have Hb := Lib.hid hb
  clear hb h
  go_enter Try.func16, Try.ntmps16
  go_wp2_with (first | (go_at_call 35; refine (Hb.out).mono ?_; rintro e w' ⟨rfl, rfl⟩) | (go_at_call 41; refine (m_xor _ _ _).mono ?_; rintro e w' ⟨rfl, hbe⟩))
  go_ret2
  exact ⟨rfl, (((Below.refl _ _).alloc (Nat.le_refl _) _).alloc (by simp) _).trans (hbe.mono (by simp; try omega))⟩
theorem alu_6 (op x y : Int) (w : World) (h : baseI op = 6) : Calls Try.prog 16 #[.int .i64 op, .int .i64 x, .int .i64 y] w fun e w' => e = .returned (.tuple #[.int .i64 (shl x y), .bool true]) ∧ Below w.heap.size w w' := by
  have hb := base_any op (w.alloc (.cells #[.int .i64 x, .int .i64 y] 48))
  rw [h] at hb
  have Hb := Lib.hid hb
  clear hb h
  go_enter Try.func16, Try.ntmps16
  go_wp2_with (first | (go_at_call 35; refine (Hb.out).mono ?_; rintro e w' ⟨rfl, rfl⟩) | (go_at_call 42; refine (m_sll _ _ _).mono ?_; rintro e w' ⟨rfl, hbe⟩))
  go_ret2
  exact ⟨rfl, (((Below.refl _ _).alloc (Nat.le_refl _) _).alloc (by simp) _).trans (hbe.mono (by simp; try omega))⟩
theorem alu_7 (op x y : Int) (w : World) (h : baseI op = 7) : Calls Try.prog 16 #[.int .i64 op, .int .i64 x, .int .i64 y] w fun e w' => e = .returned (.tuple #[.int .i64 (shr x y), .bool true]) ∧ Below w.heap.size w w' := by
  have hb := base_any op (w.alloc (.cells #[.int .i64 x, .int .i64 y] 48))
  rw [h] at hb
  have Hb := Lib.hid hb
  clear hb h
  go_enter Try.func16, Try.ntmps16
  go_wp2_with (first | (go_at_call 35; refine (Hb.out).mono ?_; rintro e w' ⟨rfl, rfl⟩) | (go_at_call 43; refine (m_srl _ _ _).mono ?_; rintro e w' ⟨rfl, hbe⟩))
  go_ret2
  exact ⟨rfl, (((Below.refl _ _).alloc (Nat.le_refl _) _).alloc (by simp) _).trans (hbe.mono (by simp; try omega))⟩
theorem alu_8 (op x y : Int) (w : World) (h : baseI op = 8) : Calls Try.prog 16 #[.int .i64 op, .int .i64 x, .int .i64 y] w fun e w' => e = .returned (.tuple #[.int .i64 (sra x y), .bool true]) ∧ Below w.heap.size w w' := by
  have hb := base_any op (w.alloc (.cells #[.int .i64 x, .int .i64 y] 48))
  rw [h] at hb
  have Hb := Lib.hid hb
  clear hb h
  go_enter Try.func16, Try.ntmps16
  go_wp2_with (first | (go_at_call 35; refine (Hb.out).mono ?_; rintro e w' ⟨rfl, rfl⟩) | (go_at_call 44; refine (m_sra _ _ _).mono ?_; rintro e w' ⟨rfl, hbe⟩))
  go_ret2
  exact ⟨rfl, (((Below.refl _ _).alloc (Nat.le_refl _) _).alloc (by simp) _).trans (hbe.mono (by simp; try omega))⟩
theorem alu_9 (op x y : Int) (w : World) (h : baseI op = 9) : Calls Try.prog 16 #[.int .i64 op, .int .i64 x, .int .i64 y] w fun e w' => e = .returned (.tuple #[.int .i64 (W (x * y)), .bool true]) ∧ Below w.heap.size w w' := by
  have hb := base_any op (w.alloc (.cells #[.int .i64 x, .int .i64 y] 48))
  rw [h] at hb
  have Hb := Lib.hid hb
  clear hb h
  go_enter Try.func16, Try.ntmps16
  go_wp2_with (first | (go_at_call 35; refine (Hb.out).mono ?_; rintro e w' ⟨rfl, rfl⟩) | (go_at_call 45; refine (m_mul _ _ _).mono ?_; rintro e w' ⟨rfl, hbe⟩))
  go_ret2
  exact ⟨rfl, (((Below.refl _ _).alloc (Nat.le_refl _) _).alloc (by simp) _).trans (hbe.mono (by simp; try omega))⟩
theorem alu_10 (op x y : Int) (w : World) (h : baseI op = 10) : Calls Try.prog 16 #[.int .i64 op, .int .i64 x, .int .i64 y] w fun e w' => e = .returned (.tuple #[.int .i64 (bitI (decide (S x < S y))), .bool true]) ∧ Below w.heap.size w w' := by
  have hb := base_any op (w.alloc (.cells #[.int .i64 x, .int .i64 y] 48))
  rw [h] at hb
  have Hb := Lib.hid hb
  clear hb h
  go_enter Try.func16, Try.ntmps16
  go_wp2_with (first | (go_at_call 35; refine (Hb.out).mono ?_; rintro e w' ⟨rfl, rfl⟩) | (go_at_call 46; refine (m_slt _ _ _).mono ?_; rintro e w' ⟨rfl, hbe⟩))
  go_ret2
  exact ⟨rfl, (((Below.refl _ _).alloc (Nat.le_refl _) _).alloc (by simp) _).trans (hbe.mono (by simp; try omega))⟩
theorem alu_11 (op x y : Int) (w : World) (h : baseI op = 11) : Calls Try.prog 16 #[.int .i64 op, .int .i64 x, .int .i64 y] w fun e w' => e = .returned (.tuple #[.int .i64 (bitI (decide (W x < W y))), .bool true]) ∧ Below w.heap.size w w' := by
  have hb := base_any op (w.alloc (.cells #[.int .i64 x, .int .i64 y] 48))
  rw [h] at hb
  have Hb := Lib.hid hb
  clear hb h
  go_enter Try.func16, Try.ntmps16
  go_wp2_with (first | (go_at_call 35; refine (Hb.out).mono ?_; rintro e w' ⟨rfl, rfl⟩) | (go_at_call 47; refine (m_sltu _ _ _).mono ?_; rintro e w' ⟨rfl, hbe⟩))
  go_ret2
  exact ⟨rfl, (((Below.refl _ _).alloc (Nat.le_refl _) _).alloc (by simp) _).trans (hbe.mono (by simp; try omega))⟩
theorem alu_12 (op x y : Int) (w : World) (h : baseI op = 12) : Calls Try.prog 16 #[.int .i64 op, .int .i64 x, .int .i64 y] w fun e w' => e = .returned (.tuple #[.int .i64 (qdiv x y), .bool true]) ∧ Below w.heap.size w w' := by
  have hb := base_any op (w.alloc (.cells #[.int .i64 x, .int .i64 y] 48))
  rw [h] at hb
  have Hb := Lib.hid hb
  clear hb h
  go_enter Try.func16, Try.ntmps16
  go_wp2_with (first | (go_at_call 35; refine (Hb.out).mono ?_; rintro e w' ⟨rfl, rfl⟩) | (go_at_call 48; refine (m_divu _ _ _).mono ?_; rintro e w' ⟨rfl, hbe⟩))
  go_ret2
  exact ⟨rfl, (((Below.refl _ _).alloc (Nat.le_refl _) _).alloc (by simp) _).trans (hbe.mono (by simp; try omega))⟩
theorem alu_13 (op x y : Int) (w : World) (h : baseI op = 13) : Calls Try.prog 16 #[.int .i64 op, .int .i64 x, .int .i64 y] w fun e w' => e = .returned (.tuple #[.int .i64 (rrem x y), .bool true]) ∧ Below w.heap.size w w' := by
  have hb := base_any op (w.alloc (.cells #[.int .i64 x, .int .i64 y] 48))
  rw [h] at hb
  have Hb := Lib.hid hb
  clear hb h
  go_enter Try.func16, Try.ntmps16
  go_wp2_with (first | (go_at_call 35; refine (Hb.out).mono ?_; rintro e w' ⟨rfl, rfl⟩) | (go_at_call 49; refine (m_remu _ _ _).mono ?_; rintro e w' ⟨rfl, hbe⟩))
  go_ret2
  exact ⟨rfl, (((Below.refl _ _).alloc (Nat.le_refl _) _).alloc (by simp) _).trans (hbe.mono (by simp; try omega))⟩
theorem alu_23 (op x y : Int) (w : World) (h : baseI op = 23) : Calls Try.prog 16 #[.int .i64 op, .int .i64 x, .int .i64 y] w fun e w' => e = .returned (.tuple #[.int .i64 (shl y 16), .bool true]) ∧ Below w.heap.size w w' := by
  have hb := base_any op (w.alloc (.cells #[.int .i64 x, .int .i64 y] 48))
  rw [h] at hb
  have Hb := Lib.hid hb
  clear hb h
  go_enter Try.func16, Try.ntmps16
  go_wp2_with (first | (go_at_call 35; refine (Hb.out).mono ?_; rintro e w' ⟨rfl, rfl⟩) | (go_at_call 36; refine (m_lui _ _ _).mono ?_; rintro e w' ⟨rfl, hbe⟩))
  go_ret2
  exact ⟨rfl, ((Below.refl _ _).alloc (Nat.le_refl _) _).trans (hbe.mono (by simp; try omega))⟩
theorem alu_any (op x y : Int) (w : World) : Calls Try.prog 16 #[.int .i64 op, .int .i64 x, .int .i64 y] w fun e w' => e = .returned (.tuple #[.int .i64 (aluV op x y), .bool (aluB op)]) ∧ Below w.heap.size w w' := by
  unfold aluV aluB
  rcases base_cases op with h | h | h | h | h | h | h | h | h | h | h | h | h | h | h
  · have q := alu_0 op x y w h
    rw [h]; exact q
  · have q := alu_1 op x y w h
    rw [h]; exact q
  · have q := alu_2 op x y w h
    rw [h]; exact q
  · have q := alu_3 op x y w h
    rw [h]; exact q
  · have q := alu_4 op x y w h
    rw [h]; exact q
  · have q := alu_5 op x y w h
    rw [h]; exact q
  · have q := alu_6 op x y w h
    rw [h]; exact q
  · have q := alu_7 op x y w h
    rw [h]; exact q
  · have q := alu_8 op x y w h
    rw [h]; exact q
  · have q := alu_9 op x y w h
    rw [h]; exact q
  · have q := alu_10 op x y w h
    rw [h]; exact q
  · have q := alu_11 op x y w h
    rw [h]; exact q
  · have q := alu_12 op x y w h
    rw [h]; exact q
  · have q := alu_13 op x y w h
    rw [h]; exact q
  · have q := alu_23 op x y w h
    rw [h]; exact q
end Go.Proofs.Ytodkenbkogfefaa
