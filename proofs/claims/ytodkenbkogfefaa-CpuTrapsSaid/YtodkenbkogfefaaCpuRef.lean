/- What the reference computes of operations, and what both compute of branches and loads: each call returns the plain values that are written there and changes nothing. No conditions. -/
import Derived.Test.YtodkenbkogfefaaCpu
namespace Go.Proofs.Ytodkenbkogfefaa
open Go.RowKit

theorem B_W (x : Int) : B (W x) = B x &&& 4294967295#64 := by rw [W_B, B_toInt]
theorem W_and (x y : Int) : bits .and .i64 (W x) (W y) = W (bits .and .i64 x y) := by
  rw [andB, andB, B_W, B_W, W_B, B_toInt]
  congr 1
  ext i hi
  simp only [BitVec.getElem_and]
  cases (B x)[i] <;> cases (B y)[i] <;> cases (4294967295#64)[i] <;> rfl
theorem W_or (x y : Int) : bits .or .i64 (W x) (W y) = W (bits .or .i64 x y) := by
  rw [orB, orB, B_W, B_W, W_B, B_toInt]
  congr 1
  ext i hi
  simp only [BitVec.getElem_and, BitVec.getElem_or]
  cases (B x)[i] <;> cases (B y)[i] <;> cases (4294967295#64)[i] <;> rfl
theorem W_xor (x y : Int) : bits .xor .i64 (W x) (W y) = W (bits .xor .i64 x y) := by
  rw [xorB, xorB, B_W, B_W, W_B, B_toInt]
  congr 1
  ext i hi
  simp only [BitVec.getElem_and, BitVec.getElem_xor]
  cases (B x)[i] <;> cases (B y)[i] <;> cases (4294967295#64)[i] <;> rfl
theorem W_32 (y : Int) : W y % 32 = y % 32 := by unfold W; omega
theorem shl_W (x y : Int) : shl (W x) (W y) = shl x y := by unfold shl; rw [W_32, W_mul_l]
theorem shr_W (x y : Int) : shr (W x) (W y) = shr x y := by unfold shr; rw [W_32, W_W]
theorem sra_W (x y : Int) : sra (W x) (W y) = sra x y := by unfold sra; rw [W_32, S_W]
theorem qdiv_W (x y : Int) : qdiv (W x) (W y) = qdiv x y := by unfold qdiv; rw [W_W, W_W]
theorem rrem_W (x y : Int) : rrem (W x) (W y) = rrem x y := by unfold rrem; rw [W_W, W_W]
theorem lui_W (y : Int) : W (wrap64 (W y * 65536)) = shl y 16 := by rw [W_wrap, W_mul_l]; rfl
theorem ret_pair {a b : Int} {c : Bool} (h : a = b) : Ending.returned (.tuple #[.int .i64 a, .bool c]) = .returned (.tuple #[.int .i64 b, .bool c]) := by rw [h]
theorem refAlu_1 (x y : Int) (w : World) : Calls Try.prog 19 #[.int .i64 1, .int .i64 x, .int .i64 y] w fun e w' => e = .returned (.tuple #[.int .i64 (W (x + y)), .bool true]) ∧ w = w' := by
  have e0 := W_add x y
  have hx := W_bd x
  have hy := W_bd y
  go_enter Try.func19, Try.ntmps19
  go_wp2_with (first | (go_at_call 17; refine (refW_any _ _).mono ?_; rintro e w' ⟨rfl, rfl⟩))
  go_ret2
  exact ⟨ret_pair rfl, rfl⟩
theorem refAlu_2 (x y : Int) (w : World) : Calls Try.prog 19 #[.int .i64 2, .int .i64 x, .int .i64 y] w fun e w' => e = .returned (.tuple #[.int .i64 (W (x - y)), .bool true]) ∧ w = w' := by
  have e0 := W_sub x y
  have hx := W_bd x
  have hy := W_bd y
  go_enter Try.func19, Try.ntmps19
  go_wp2_with (first | (go_at_call 17; refine (refW_any _ _).mono ?_; rintro e w' ⟨rfl, rfl⟩))
  go_ret2
  exact ⟨ret_pair rfl, rfl⟩
theorem refAlu_3 (x y : Int) (w : World) : Calls Try.prog 19 #[.int .i64 3, .int .i64 x, .int .i64 y] w fun e w' => e = .returned (.tuple #[.int .i64 (W (bits .and .i64 x y)), .bool true]) ∧ w = w' := by
  go_enter Try.func19, Try.ntmps19
  go_wp2_with (first | (go_at_call 17; refine (refW_any _ _).mono ?_; rintro e w' ⟨rfl, rfl⟩))
  go_ret2
  exact ⟨ret_pair (W_and x y), rfl⟩
theorem refAlu_4 (x y : Int) (w : World) : Calls Try.prog 19 #[.int .i64 4, .int .i64 x, .int .i64 y] w fun e w' => e = .returned (.tuple #[.int .i64 (W (bits .or .i64 x y)), .bool true]) ∧ w = w' := by
  go_enter Try.func19, Try.ntmps19
  go_wp2_with (first | (go_at_call 17; refine (refW_any _ _).mono ?_; rintro e w' ⟨rfl, rfl⟩))
  go_ret2
  exact ⟨ret_pair (W_or x y), rfl⟩
theorem refAlu_5 (x y : Int) (w : World) : Calls Try.prog 19 #[.int .i64 5, .int .i64 x, .int .i64 y] w fun e w' => e = .returned (.tuple #[.int .i64 (W (bits .xor .i64 x y)), .bool true]) ∧ w = w' := by
  go_enter Try.func19, Try.ntmps19
  go_wp2_with (first | (go_at_call 17; refine (refW_any _ _).mono ?_; rintro e w' ⟨rfl, rfl⟩))
  go_ret2
  exact ⟨ret_pair (W_xor x y), rfl⟩
theorem refAlu_6 (x y : Int) (w : World) : Calls Try.prog 19 #[.int .i64 6, .int .i64 x, .int .i64 y] w fun e w' => e = .returned (.tuple #[.int .i64 (shl x y), .bool true]) ∧ w = w' := by
  go_enter Try.func19, Try.ntmps19
  go_wp2_with (first | (go_at_call 17; refine (refW_any _ _).mono ?_; rintro e w' ⟨rfl, rfl⟩) | (go_at_call 50; refine (refLeft_any _ _ _).mono ?_; rintro e w' ⟨rfl, rfl⟩))
  go_ret2
  exact ⟨ret_pair (shl_W x y), rfl⟩
theorem refAlu_7 (x y : Int) (w : World) : Calls Try.prog 19 #[.int .i64 7, .int .i64 x, .int .i64 y] w fun e w' => e = .returned (.tuple #[.int .i64 (shr x y), .bool true]) ∧ w = w' := by
  go_enter Try.func19, Try.ntmps19
  go_wp2_with (first | (go_at_call 17; refine (refW_any _ _).mono ?_; rintro e w' ⟨rfl, rfl⟩) | (go_at_call 51; refine (refRight_any _ _ _).mono ?_; rintro e w' ⟨rfl, rfl⟩))
  go_ret2
  exact ⟨ret_pair (shr_W x y), rfl⟩
theorem refAlu_8 (x y : Int) (w : World) : Calls Try.prog 19 #[.int .i64 8, .int .i64 x, .int .i64 y] w fun e w' => e = .returned (.tuple #[.int .i64 (sra x y), .bool true]) ∧ w = w' := by
  go_enter Try.func19, Try.ntmps19
  go_wp2_with (first | (go_at_call 17; refine (refW_any _ _).mono ?_; rintro e w' ⟨rfl, rfl⟩) | (go_at_call 52; refine (refArith_any _ _ _).mono ?_; rintro e w' ⟨rfl, rfl⟩))
  go_ret2
  exact ⟨ret_pair (sra_W x y), rfl⟩
theorem refAlu_9 (x y : Int) (w : World) : Calls Try.prog 19 #[.int .i64 9, .int .i64 x, .int .i64 y] w fun e w' => e = .returned (.tuple #[.int .i64 (W (x * y)), .bool true]) ∧ w = w' := by
  go_enter Try.func19, Try.ntmps19
  go_wp2_with (first | (go_at_call 17; refine (refW_any _ _).mono ?_; rintro e w' ⟨rfl, rfl⟩) | (go_at_call 53; refine (refMul_any _ _ _).mono ?_; rintro e w' ⟨rfl, rfl⟩))
  go_ret2
  exact ⟨ret_pair (W_mul x y), rfl⟩
theorem refAlu_10 (x y : Int) (w : World) : Calls Try.prog 19 #[.int .i64 10, .int .i64 x, .int .i64 y] w fun e w' => e = .returned (.tuple #[.int .i64 (bitI (decide (S x < S y))), .bool true]) ∧ w = w' := by
  have hx := W_bd x
  have hy := W_bd y
  have ex := S_W x
  have ey := S_W y
  by_cases h : S x < S y
  · have hv : bitI (decide (S x < S y)) = 1 := by simp [bitI, h]
    rw [hv]; clear hv
    go_enter Try.func19, Try.ntmps19
    go_wp2_with (first | (go_at_call 17; refine (refW_any _ _).mono ?_; rintro e w' ⟨rfl, rfl⟩) | (go_at_call 18; refine (refSigned_any _ _).mono ?_; rintro e w' ⟨rfl, rfl⟩))
    go_ret2
    exact ⟨rfl, rfl⟩
  · have hv : bitI (decide (S x < S y)) = 0 := by simp [bitI, h]
    rw [hv]; clear hv
    go_enter Try.func19, Try.ntmps19
    go_wp2_with (first | (go_at_call 17; refine (refW_any _ _).mono ?_; rintro e w' ⟨rfl, rfl⟩) | (go_at_call 18; refine (refSigned_any _ _).mono ?_; rintro e w' ⟨rfl, rfl⟩))
    go_ret2
    exact ⟨rfl, rfl⟩
theorem refAlu_11 (x y : Int) (w : World) : Calls Try.prog 19 #[.int .i64 11, .int .i64 x, .int .i64 y] w fun e w' => e = .returned (.tuple #[.int .i64 (bitI (decide (W x < W y))), .bool true]) ∧ w = w' := by
  have hx := W_bd x
  have hy := W_bd y
  have ex := S_W x
  have ey := S_W y
  by_cases h : W x < W y
  · have hv : bitI (decide (W x < W y)) = 1 := by simp [bitI, h]
    rw [hv]; clear hv
    go_enter Try.func19, Try.ntmps19
    go_wp2_with (first | (go_at_call 17; refine (refW_any _ _).mono ?_; rintro e w' ⟨rfl, rfl⟩) | (go_at_call 18; refine (refSigned_any _ _).mono ?_; rintro e w' ⟨rfl, rfl⟩))
    go_ret2
    exact ⟨rfl, rfl⟩
  · have hv : bitI (decide (W x < W y)) = 0 := by simp [bitI, h]
    rw [hv]; clear hv
    go_enter Try.func19, Try.ntmps19
    go_wp2_with (first | (go_at_call 17; refine (refW_any _ _).mono ?_; rintro e w' ⟨rfl, rfl⟩) | (go_at_call 18; refine (refSigned_any _ _).mono ?_; rintro e w' ⟨rfl, rfl⟩))
    go_ret2
    exact ⟨rfl, rfl⟩
theorem refAlu_12 (x y : Int) (w : World) : Calls Try.prog 19 #[.int .i64 12, .int .i64 x, .int .i64 y] w fun e w' => e = .returned (.tuple #[.int .i64 (qdiv x y), .bool true]) ∧ w = w' := by
  go_enter Try.func19, Try.ntmps19
  go_wp2_with (first | (go_at_call 17; refine (refW_any _ _).mono ?_; rintro e w' ⟨rfl, rfl⟩) | (go_at_call 54; refine (refDiv_any _ _ _).mono ?_; rintro e w' ⟨rfl, rfl⟩))
  go_ret2
  exact ⟨ret_pair (qdiv_W x y), rfl⟩
theorem refAlu_13 (x y : Int) (w : World) : Calls Try.prog 19 #[.int .i64 13, .int .i64 x, .int .i64 y] w fun e w' => e = .returned (.tuple #[.int .i64 (rrem x y), .bool true]) ∧ w = w' := by
  go_enter Try.func19, Try.ntmps19
  go_wp2_with (first | (go_at_call 17; refine (refW_any _ _).mono ?_; rintro e w' ⟨rfl, rfl⟩) | (go_at_call 55; refine (refRem_any _ _ _).mono ?_; rintro e w' ⟨rfl, rfl⟩))
  go_ret2
  exact ⟨ret_pair (rrem_W x y), rfl⟩
theorem refAlu_16 (x y : Int) (w : World) : Calls Try.prog 19 #[.int .i64 16, .int .i64 x, .int .i64 y] w fun e w' => e = .returned (.tuple #[.int .i64 (W (x + y)), .bool true]) ∧ w = w' := by
  have e0 := W_add x y
  have hx := W_bd x
  have hy := W_bd y
  go_enter Try.func19, Try.ntmps19
  go_wp2_with (first | (go_at_call 17; refine (refW_any _ _).mono ?_; rintro e w' ⟨rfl, rfl⟩))
  go_ret2
  exact ⟨ret_pair rfl, rfl⟩
theorem refAlu_17 (x y : Int) (w : World) : Calls Try.prog 19 #[.int .i64 17, .int .i64 x, .int .i64 y] w fun e w' => e = .returned (.tuple #[.int .i64 (W (bits .and .i64 x y)), .bool true]) ∧ w = w' := by
  go_enter Try.func19, Try.ntmps19
  go_wp2_with (first | (go_at_call 17; refine (refW_any _ _).mono ?_; rintro e w' ⟨rfl, rfl⟩))
  go_ret2
  exact ⟨ret_pair (W_and x y), rfl⟩
theorem refAlu_18 (x y : Int) (w : World) : Calls Try.prog 19 #[.int .i64 18, .int .i64 x, .int .i64 y] w fun e w' => e = .returned (.tuple #[.int .i64 (W (bits .or .i64 x y)), .bool true]) ∧ w = w' := by
  go_enter Try.func19, Try.ntmps19
  go_wp2_with (first | (go_at_call 17; refine (refW_any _ _).mono ?_; rintro e w' ⟨rfl, rfl⟩))
  go_ret2
  exact ⟨ret_pair (W_or x y), rfl⟩
theorem refAlu_19 (x y : Int) (w : World) : Calls Try.prog 19 #[.int .i64 19, .int .i64 x, .int .i64 y] w fun e w' => e = .returned (.tuple #[.int .i64 (W (bits .xor .i64 x y)), .bool true]) ∧ w = w' := by
  go_enter Try.func19, Try.ntmps19
  go_wp2_with (first | (go_at_call 17; refine (refW_any _ _).mono ?_; rintro e w' ⟨rfl, rfl⟩))
  go_ret2
  exact ⟨ret_pair (W_xor x y), rfl⟩
theorem refAlu_20 (x y : Int) (w : World) : Calls Try.prog 19 #[.int .i64 20, .int .i64 x, .int .i64 y] w fun e w' => e = .returned (.tuple #[.int .i64 (shl x y), .bool true]) ∧ w = w' := by
  go_enter Try.func19, Try.ntmps19
  go_wp2_with (first | (go_at_call 17; refine (refW_any _ _).mono ?_; rintro e w' ⟨rfl, rfl⟩) | (go_at_call 50; refine (refLeft_any _ _ _).mono ?_; rintro e w' ⟨rfl, rfl⟩))
  go_ret2
  exact ⟨ret_pair (shl_W x y), rfl⟩
theorem refAlu_21 (x y : Int) (w : World) : Calls Try.prog 19 #[.int .i64 21, .int .i64 x, .int .i64 y] w fun e w' => e = .returned (.tuple #[.int .i64 (shr x y), .bool true]) ∧ w = w' := by
  go_enter Try.func19, Try.ntmps19
  go_wp2_with (first | (go_at_call 17; refine (refW_any _ _).mono ?_; rintro e w' ⟨rfl, rfl⟩) | (go_at_call 51; refine (refRight_any _ _ _).mono ?_; rintro e w' ⟨rfl, rfl⟩))
  go_ret2
  exact ⟨ret_pair (shr_W x y), rfl⟩
theorem refAlu_22 (x y : Int) (w : World) : Calls Try.prog 19 #[.int .i64 22, .int .i64 x, .int .i64 y] w fun e w' => e = .returned (.tuple #[.int .i64 (sra x y), .bool true]) ∧ w = w' := by
  go_enter Try.func19, Try.ntmps19
  go_wp2_with (first | (go_at_call 17; refine (refW_any _ _).mono ?_; rintro e w' ⟨rfl, rfl⟩) | (go_at_call 52; refine (refArith_any _ _ _).mono ?_; rintro e w' ⟨rfl, rfl⟩))
  go_ret2
  exact ⟨ret_pair (sra_W x y), rfl⟩
theorem refAlu_23 (x y : Int) (w : World) : Calls Try.prog 19 #[.int .i64 23, .int .i64 x, .int .i64 y] w fun e w' => e = .returned (.tuple #[.int .i64 (shl y 16), .bool true]) ∧ w = w' := by
  go_enter Try.func19, Try.ntmps19
  go_wp2_with (first | (go_at_call 17; refine (refW_any _ _).mono ?_; rintro e w' ⟨rfl, rfl⟩))
  go_ret2
  exact ⟨ret_pair (lui_W y), rfl⟩
theorem refAlu_24 (x y : Int) (w : World) : Calls Try.prog 19 #[.int .i64 24, .int .i64 x, .int .i64 y] w fun e w' => e = .returned (.tuple #[.int .i64 (bitI (decide (S x < S y))), .bool true]) ∧ w = w' := by
  have hx := W_bd x
  have hy := W_bd y
  have ex := S_W x
  have ey := S_W y
  by_cases h : S x < S y
  · have hv : bitI (decide (S x < S y)) = 1 := by simp [bitI, h]
    rw [hv]; clear hv
    go_enter Try.func19, Try.ntmps19
    go_wp2_with (first | (go_at_call 17; refine (refW_any _ _).mono ?_; rintro e w' ⟨rfl, rfl⟩) | (go_at_call 18; refine (refSigned_any _ _).mono ?_; rintro e w' ⟨rfl, rfl⟩))
    go_ret2
    exact ⟨rfl, rfl⟩
  · have hv : bitI (decide (S x < S y)) = 0 := by simp [bitI, h]
    rw [hv]; clear hv
    go_enter Try.func19, Try.ntmps19
    go_wp2_with (first | (go_at_call 17; refine (refW_any _ _).mono ?_; rintro e w' ⟨rfl, rfl⟩) | (go_at_call 18; refine (refSigned_any _ _).mono ?_; rintro e w' ⟨rfl, rfl⟩))
    go_ret2
    exact ⟨rfl, rfl⟩
theorem refAlu_no (op x y : Int) (w : World) (h : op < 1 ∨ (13 < op ∧ op < 16) ∨ 24 < op) : Calls Try.prog 19 #[.int .i64 op, .int .i64 x, .int .i64 y] w fun e w' => e = .returned (.tuple #[.int .i64 0, .bool false]) ∧ w = w' := by
  rcases h with h | ⟨h, h2⟩ | h
  all_goals
    go_enter Try.func19, Try.ntmps19
    go_wp2_with (first | (go_at_call 17; refine (refW_any _ _).mono ?_; rintro e w' ⟨rfl, rfl⟩))
    go_ret2
    exact ⟨rfl, rfl⟩
theorem op_cases (op : Int) : (op < 1 ∨ (13 < op ∧ op < 16) ∨ 24 < op) ∨ op = 1 ∨ op = 2 ∨ op = 3 ∨ op = 4 ∨ op = 5 ∨ op = 6 ∨ op = 7 ∨ op = 8 ∨ op = 9 ∨ op = 10 ∨ op = 11 ∨ op = 12 ∨ op = 13 ∨ op = 16 ∨ op = 17 ∨ op = 18 ∨ op = 19 ∨ op = 20 ∨ op = 21 ∨ op = 22 ∨ op = 23 ∨ op = 24 := by omega
theorem base_no (op : Int) (h : op < 1 ∨ (13 < op ∧ op < 16) ∨ 24 < op) : baseI op = 0 := by
  unfold baseI
  rw [if_neg (by omega), if_neg (by omega), if_neg (by omega), if_neg (by omega), if_neg (by omega)]
theorem refAlu_any (op x y : Int) (w : World) : Calls Try.prog 19 #[.int .i64 op, .int .i64 x, .int .i64 y] w fun e w' => e = .returned (.tuple #[.int .i64 (aluV op x y), .bool (aluB op)]) ∧ w = w' := by
  unfold aluV aluB
  rcases op_cases op with h | rfl | rfl | rfl | rfl | rfl | rfl | rfl | rfl | rfl | rfl | rfl | rfl | rfl | rfl | rfl | rfl | rfl | rfl | rfl | rfl | rfl | rfl
  · have q := refAlu_no op x y w h
    rw [base_no op h]; exact q
  · have q := refAlu_1 x y w
    rw [show baseI 1 = 1 from by decide]; exact q
  · have q := refAlu_2 x y w
    rw [show baseI 2 = 2 from by decide]; exact q
  · have q := refAlu_3 x y w
    rw [show baseI 3 = 3 from by decide]; exact q
  · have q := refAlu_4 x y w
    rw [show baseI 4 = 4 from by decide]; exact q
  · have q := refAlu_5 x y w
    rw [show baseI 5 = 5 from by decide]; exact q
  · have q := refAlu_6 x y w
    rw [show baseI 6 = 6 from by decide]; exact q
  · have q := refAlu_7 x y w
    rw [show baseI 7 = 7 from by decide]; exact q
  · have q := refAlu_8 x y w
    rw [show baseI 8 = 8 from by decide]; exact q
  · have q := refAlu_9 x y w
    rw [show baseI 9 = 9 from by decide]; exact q
  · have q := refAlu_10 x y w
    rw [show baseI 10 = 10 from by decide]; exact q
  · have q := refAlu_11 x y w
    rw [show baseI 11 = 11 from by decide]; exact q
  · have q := refAlu_12 x y w
    rw [show baseI 12 = 12 from by decide]; exact q
  · have q := refAlu_13 x y w
    rw [show baseI 13 = 13 from by decide]; exact q
  · have q := refAlu_16 x y w
    rw [show baseI 16 = 1 from by decide]; exact q
  · have q := refAlu_17 x y w
    rw [show baseI 17 = 3 from by decide]; exact q
  · have q := refAlu_18 x y w
    rw [show baseI 18 = 4 from by decide]; exact q
  · have q := refAlu_19 x y w
    rw [show baseI 19 = 5 from by decide]; exact q
  · have q := refAlu_20 x y w
    rw [show baseI 20 = 6 from by decide]; exact q
  · have q := refAlu_21 x y w
    rw [show baseI 21 = 7 from by decide]; exact q
  · have q := refAlu_22 x y w
    rw [show baseI 22 = 8 from by decide]; exact q
  · have q := refAlu_23 x y w
    rw [show baseI 23 = 23 from by decide]; exact q
  · have q := refAlu_24 x y w
    rw [show baseI 24 = 10 from by decide]; exact q

/-- Whether a branch is taken; whether it is one. -/
def tkn (op x y : Int) : Bool :=
  if op = 48 then W x == W y else if op = 49 then !(W x == W y) else if op = 50 then decide (S x < S y) else if op = 51 then !decide (S x < S y) else if op = 52 then decide (W x < W y) else if op = 53 then !decide (W x < W y) else false
def brB (op : Int) : Bool := decide (48 ≤ op ∧ op ≤ 53)
theorem tkn_no (op x y : Int) (h : op < 48 ∨ 53 < op) : tkn op x y = false ∧ brB op = false := by
  constructor
  · unfold tkn
    rw [if_neg (by omega), if_neg (by omega), if_neg (by omega), if_neg (by omega), if_neg (by omega), if_neg (by omega)]
  · unfold brB; simp; omega
theorem ret_bools {a b c d : Bool} (h : a = b) (g : c = d) : Ending.returned (.tuple #[.bool a, .bool c]) = .returned (.tuple #[.bool b, .bool d]) := by rw [h, g]
theorem taken_no (op x y : Int) (w : World) (h : op < 48 ∨ 53 < op) : Calls Try.prog 20 #[.int .i64 op, .int .i64 x, .int .i64 y] w fun e w' => e = .returned (.tuple #[.bool false, .bool false]) ∧ w = w' := by
  rcases h with h | h
  all_goals
    go_enter Try.func20, Try.ntmps20
    go_wp2_with (first | (go_at_call 33; refine (of_any _ _).mono ?_; rintro e w' ⟨rfl, rfl⟩) | (go_at_call 56; refine (less_any _ _ _).mono ?_; rintro e w' ⟨rfl, rfl⟩) | (go_at_call 57; refine (below_any _ _ _).mono ?_; rintro e w' ⟨rfl, rfl⟩))
    go_ret2
    exact ⟨rfl, rfl⟩
theorem taken_48 (x y : Int) (w : World) : Calls Try.prog 20 #[.int .i64 48, .int .i64 x, .int .i64 y] w fun e w' => e = .returned (.tuple #[.bool (tkn 48 x y), .bool true]) ∧ w = w' := by
  have ex := S_W x
  have ey := S_W y
  by_cases h : W x = W y
  · have hb2 : (W x != W y) = false := by simp [h]
    have hb : (W x == W y) = true := by simp [h]
    have hv : tkn 48 x y = true := by simp [tkn, h]
    rw [hv]; clear hv
    clear h
    go_enter Try.func20, Try.ntmps20
    go_wp2_with (first | (go_at_call 33; refine (of_any _ _).mono ?_; rintro e w' ⟨rfl, rfl⟩) | (go_at_call 56; refine (less_any _ _ _).mono ?_; rintro e w' ⟨rfl, rfl⟩) | (go_at_call 57; refine (below_any _ _ _).mono ?_; rintro e w' ⟨rfl, rfl⟩))
    go_ret2
    exact ⟨rfl, rfl⟩
  · have hb2 : (W x != W y) = true := by simp [h]
    have hb : (W x == W y) = false := by simp [h]
    have hv : tkn 48 x y = false := by simp [tkn, h]
    rw [hv]; clear hv
    clear h
    go_enter Try.func20, Try.ntmps20
    go_wp2_with (first | (go_at_call 33; refine (of_any _ _).mono ?_; rintro e w' ⟨rfl, rfl⟩) | (go_at_call 56; refine (less_any _ _ _).mono ?_; rintro e w' ⟨rfl, rfl⟩) | (go_at_call 57; refine (below_any _ _ _).mono ?_; rintro e w' ⟨rfl, rfl⟩))
    go_ret2
    exact ⟨rfl, rfl⟩
theorem taken_49 (x y : Int) (w : World) : Calls Try.prog 20 #[.int .i64 49, .int .i64 x, .int .i64 y] w fun e w' => e = .returned (.tuple #[.bool (tkn 49 x y), .bool true]) ∧ w = w' := by
  have ex := S_W x
  have ey := S_W y
  by_cases h : W x = W y
  · have hb2 : (W x != W y) = false := by simp [h]
    have hb : (W x == W y) = true := by simp [h]
    have hv : tkn 49 x y = false := by simp [tkn, h]
    rw [hv]; clear hv
    clear h
    go_enter Try.func20, Try.ntmps20
    go_wp2_with (first | (go_at_call 33; refine (of_any _ _).mono ?_; rintro e w' ⟨rfl, rfl⟩) | (go_at_call 56; refine (less_any _ _ _).mono ?_; rintro e w' ⟨rfl, rfl⟩) | (go_at_call 57; refine (below_any _ _ _).mono ?_; rintro e w' ⟨rfl, rfl⟩))
    go_ret2
    exact ⟨rfl, rfl⟩
  · have hb2 : (W x != W y) = true := by simp [h]
    have hb : (W x == W y) = false := by simp [h]
    have hv : tkn 49 x y = true := by simp [tkn, h]
    rw [hv]; clear hv
    clear h
    go_enter Try.func20, Try.ntmps20
    go_wp2_with (first | (go_at_call 33; refine (of_any _ _).mono ?_; rintro e w' ⟨rfl, rfl⟩) | (go_at_call 56; refine (less_any _ _ _).mono ?_; rintro e w' ⟨rfl, rfl⟩) | (go_at_call 57; refine (below_any _ _ _).mono ?_; rintro e w' ⟨rfl, rfl⟩))
    go_ret2
    exact ⟨rfl, rfl⟩
theorem taken_50 (x y : Int) (w : World) : Calls Try.prog 20 #[.int .i64 50, .int .i64 x, .int .i64 y] w fun e w' => e = .returned (.tuple #[.bool (tkn 50 x y), .bool true]) ∧ w = w' := by
  have ex := S_W x
  have ey := S_W y
  by_cases h : S x < S y
  · have hb2 : decide (S y ≤ S x) = false := by simp; omega
    have hb : decide (S x < S y) = true := by simp [h]
    have hv : tkn 50 x y = true := by simp [tkn, h]
    rw [hv]; clear hv
    go_enter Try.func20, Try.ntmps20
    go_wp2_with (first | (go_at_call 33; refine (of_any _ _).mono ?_; rintro e w' ⟨rfl, rfl⟩) | (go_at_call 56; refine (less_any _ _ _).mono ?_; rintro e w' ⟨rfl, rfl⟩) | (go_at_call 57; refine (below_any _ _ _).mono ?_; rintro e w' ⟨rfl, rfl⟩))
    go_ret2
    exact ⟨rfl, rfl⟩
  · have hb2 : decide (S y ≤ S x) = true := by simp; omega
    have hb : decide (S x < S y) = false := by simp [h]
    have hv : tkn 50 x y = false := by simp [tkn, h]
    rw [hv]; clear hv
    go_enter Try.func20, Try.ntmps20
    go_wp2_with (first | (go_at_call 33; refine (of_any _ _).mono ?_; rintro e w' ⟨rfl, rfl⟩) | (go_at_call 56; refine (less_any _ _ _).mono ?_; rintro e w' ⟨rfl, rfl⟩) | (go_at_call 57; refine (below_any _ _ _).mono ?_; rintro e w' ⟨rfl, rfl⟩))
    go_ret2
    exact ⟨rfl, rfl⟩
theorem taken_51 (x y : Int) (w : World) : Calls Try.prog 20 #[.int .i64 51, .int .i64 x, .int .i64 y] w fun e w' => e = .returned (.tuple #[.bool (tkn 51 x y), .bool true]) ∧ w = w' := by
  have ex := S_W x
  have ey := S_W y
  by_cases h : S x < S y
  · have hb2 : decide (S y ≤ S x) = false := by simp; omega
    have hb : decide (S x < S y) = true := by simp [h]
    have hv : tkn 51 x y = false := by simp [tkn, h]
    rw [hv]; clear hv
    go_enter Try.func20, Try.ntmps20
    go_wp2_with (first | (go_at_call 33; refine (of_any _ _).mono ?_; rintro e w' ⟨rfl, rfl⟩) | (go_at_call 56; refine (less_any _ _ _).mono ?_; rintro e w' ⟨rfl, rfl⟩) | (go_at_call 57; refine (below_any _ _ _).mono ?_; rintro e w' ⟨rfl, rfl⟩))
    go_ret2
    exact ⟨rfl, rfl⟩
  · have hb2 : decide (S y ≤ S x) = true := by simp; omega
    have hb : decide (S x < S y) = false := by simp [h]
    have hv : tkn 51 x y = true := by simp [tkn, h]
    rw [hv]; clear hv
    go_enter Try.func20, Try.ntmps20
    go_wp2_with (first | (go_at_call 33; refine (of_any _ _).mono ?_; rintro e w' ⟨rfl, rfl⟩) | (go_at_call 56; refine (less_any _ _ _).mono ?_; rintro e w' ⟨rfl, rfl⟩) | (go_at_call 57; refine (below_any _ _ _).mono ?_; rintro e w' ⟨rfl, rfl⟩))
    go_ret2
    exact ⟨rfl, rfl⟩
theorem taken_52 (x y : Int) (w : World) : Calls Try.prog 20 #[.int .i64 52, .int .i64 x, .int .i64 y] w fun e w' => e = .returned (.tuple #[.bool (tkn 52 x y), .bool true]) ∧ w = w' := by
  have ex := S_W x
  have ey := S_W y
  by_cases h : W x < W y
  · have hb2 : decide (W y ≤ W x) = false := by simp; omega
    have hb : decide (W x < W y) = true := by simp [h]
    have hv : tkn 52 x y = true := by simp [tkn, h]
    rw [hv]; clear hv
    go_enter Try.func20, Try.ntmps20
    go_wp2_with (first | (go_at_call 33; refine (of_any _ _).mono ?_; rintro e w' ⟨rfl, rfl⟩) | (go_at_call 56; refine (less_any _ _ _).mono ?_; rintro e w' ⟨rfl, rfl⟩) | (go_at_call 57; refine (below_any _ _ _).mono ?_; rintro e w' ⟨rfl, rfl⟩))
    go_ret2
    exact ⟨rfl, rfl⟩
  · have hb2 : decide (W y ≤ W x) = true := by simp; omega
    have hb : decide (W x < W y) = false := by simp [h]
    have hv : tkn 52 x y = false := by simp [tkn, h]
    rw [hv]; clear hv
    go_enter Try.func20, Try.ntmps20
    go_wp2_with (first | (go_at_call 33; refine (of_any _ _).mono ?_; rintro e w' ⟨rfl, rfl⟩) | (go_at_call 56; refine (less_any _ _ _).mono ?_; rintro e w' ⟨rfl, rfl⟩) | (go_at_call 57; refine (below_any _ _ _).mono ?_; rintro e w' ⟨rfl, rfl⟩))
    go_ret2
    exact ⟨rfl, rfl⟩
theorem taken_53 (x y : Int) (w : World) : Calls Try.prog 20 #[.int .i64 53, .int .i64 x, .int .i64 y] w fun e w' => e = .returned (.tuple #[.bool (tkn 53 x y), .bool true]) ∧ w = w' := by
  have ex := S_W x
  have ey := S_W y
  by_cases h : W x < W y
  · have hb2 : decide (W y ≤ W x) = false := by simp; omega
    have hb : decide (W x < W y) = true := by simp [h]
    have hv : tkn 53 x y = false := by simp [tkn, h]
    rw [hv]; clear hv
    go_enter Try.func20, Try.ntmps20
    go_wp2_with (first | (go_at_call 33; refine (of_any _ _).mono ?_; rintro e w' ⟨rfl, rfl⟩) | (go_at_call 56; refine (less_any _ _ _).mono ?_; rintro e w' ⟨rfl, rfl⟩) | (go_at_call 57; refine (below_any _ _ _).mono ?_; rintro e w' ⟨rfl, rfl⟩))
    go_ret2
    exact ⟨rfl, rfl⟩
  · have hb2 : decide (W y ≤ W x) = true := by simp; omega
    have hb : decide (W x < W y) = false := by simp [h]
    have hv : tkn 53 x y = true := by simp [tkn, h]
    rw [hv]; clear hv
    go_enter Try.func20, Try.ntmps20
    go_wp2_with (first | (go_at_call 33; refine (of_any _ _).mono ?_; rintro e w' ⟨rfl, rfl⟩) | (go_at_call 56; refine (less_any _ _ _).mono ?_; rintro e w' ⟨rfl, rfl⟩) | (go_at_call 57; refine (below_any _ _ _).mono ?_; rintro e w' ⟨rfl, rfl⟩))
    go_ret2
    exact ⟨rfl, rfl⟩
theorem taken_any (op x y : Int) (w : World) : Calls Try.prog 20 #[.int .i64 op, .int .i64 x, .int .i64 y] w fun e w' => e = .returned (.tuple #[.bool (tkn op x y), .bool (brB op)]) ∧ w = w' := by
  by_cases h : op < 48 ∨ 53 < op
  · obtain ⟨e1, e2⟩ := tkn_no op x y h
    rw [e1, e2]; exact taken_no op x y w h
  · rcases (show op = 48 ∨ op = 49 ∨ op = 50 ∨ op = 51 ∨ op = 52 ∨ op = 53 by omega) with rfl | rfl | rfl | rfl | rfl | rfl
    · exact taken_48 x y w
    · exact taken_49 x y w
    · exact taken_50 x y w
    · exact taken_51 x y w
    · exact taken_52 x y w
    · exact taken_53 x y w
theorem refTaken_no (op x y : Int) (w : World) (h : op < 48 ∨ 53 < op) : Calls Try.prog 21 #[.int .i64 op, .int .i64 x, .int .i64 y] w fun e w' => e = .returned (.tuple #[.bool false, .bool false]) ∧ w = w' := by
  rcases h with h | h
  all_goals
    go_enter Try.func21, Try.ntmps21
    go_wp2_with (first | (go_at_call 17; refine (refW_any _ _).mono ?_; rintro e w' ⟨rfl, rfl⟩) | (go_at_call 18; refine (refSigned_any _ _).mono ?_; rintro e w' ⟨rfl, rfl⟩))
    go_ret2
    exact ⟨rfl, rfl⟩
theorem refTaken_48 (x y : Int) (w : World) : Calls Try.prog 21 #[.int .i64 48, .int .i64 x, .int .i64 y] w fun e w' => e = .returned (.tuple #[.bool (tkn 48 x y), .bool true]) ∧ w = w' := by
  have ex := S_W x
  have ey := S_W y
  by_cases h : W x = W y
  · have hb2 : (W x != W y) = false := by simp [h]
    have hb : (W x == W y) = true := by simp [h]
    have hv : tkn 48 x y = true := by simp [tkn, h]
    rw [hv]; clear hv
    clear h
    go_enter Try.func21, Try.ntmps21
    go_wp2_with (first | (go_at_call 17; refine (refW_any _ _).mono ?_; rintro e w' ⟨rfl, rfl⟩) | (go_at_call 18; refine (refSigned_any _ _).mono ?_; rintro e w' ⟨rfl, rfl⟩))
    go_ret2
    exact ⟨rfl, rfl⟩
  · have hb2 : (W x != W y) = true := by simp [h]
    have hb : (W x == W y) = false := by simp [h]
    have hv : tkn 48 x y = false := by simp [tkn, h]
    rw [hv]; clear hv
    clear h
    go_enter Try.func21, Try.ntmps21
    go_wp2_with (first | (go_at_call 17; refine (refW_any _ _).mono ?_; rintro e w' ⟨rfl, rfl⟩) | (go_at_call 18; refine (refSigned_any _ _).mono ?_; rintro e w' ⟨rfl, rfl⟩))
    go_ret2
    exact ⟨rfl, rfl⟩
theorem refTaken_49 (x y : Int) (w : World) : Calls Try.prog 21 #[.int .i64 49, .int .i64 x, .int .i64 y] w fun e w' => e = .returned (.tuple #[.bool (tkn 49 x y), .bool true]) ∧ w = w' := by
  have ex := S_W x
  have ey := S_W y
  by_cases h : W x = W y
  · have hb2 : (W x != W y) = false := by simp [h]
    have hb : (W x == W y) = true := by simp [h]
    have hv : tkn 49 x y = false := by simp [tkn, h]
    rw [hv]; clear hv
    clear h
    go_enter Try.func21, Try.ntmps21
    go_wp2_with (first | (go_at_call 17; refine (refW_any _ _).mono ?_; rintro e w' ⟨rfl, rfl⟩) | (go_at_call 18; refine (refSigned_any _ _).mono ?_; rintro e w' ⟨rfl, rfl⟩))
    go_ret2
    exact ⟨rfl, rfl⟩
  · have hb2 : (W x != W y) = true := by simp [h]
    have hb : (W x == W y) = false := by simp [h]
    have hv : tkn 49 x y = true := by simp [tkn, h]
    rw [hv]; clear hv
    clear h
    go_enter Try.func21, Try.ntmps21
    go_wp2_with (first | (go_at_call 17; refine (refW_any _ _).mono ?_; rintro e w' ⟨rfl, rfl⟩) | (go_at_call 18; refine (refSigned_any _ _).mono ?_; rintro e w' ⟨rfl, rfl⟩))
    go_ret2
    exact ⟨rfl, rfl⟩
theorem refTaken_50 (x y : Int) (w : World) : Calls Try.prog 21 #[.int .i64 50, .int .i64 x, .int .i64 y] w fun e w' => e = .returned (.tuple #[.bool (tkn 50 x y), .bool true]) ∧ w = w' := by
  have ex := S_W x
  have ey := S_W y
  by_cases h : S x < S y
  · have hb2 : decide (S y ≤ S x) = false := by simp; omega
    have hb : decide (S x < S y) = true := by simp [h]
    have hv : tkn 50 x y = true := by simp [tkn, h]
    rw [hv]; clear hv
    go_enter Try.func21, Try.ntmps21
    go_wp2_with (first | (go_at_call 17; refine (refW_any _ _).mono ?_; rintro e w' ⟨rfl, rfl⟩) | (go_at_call 18; refine (refSigned_any _ _).mono ?_; rintro e w' ⟨rfl, rfl⟩))
    go_ret2
    exact ⟨rfl, rfl⟩
  · have hb2 : decide (S y ≤ S x) = true := by simp; omega
    have hb : decide (S x < S y) = false := by simp [h]
    have hv : tkn 50 x y = false := by simp [tkn, h]
    rw [hv]; clear hv
    go_enter Try.func21, Try.ntmps21
    go_wp2_with (first | (go_at_call 17; refine (refW_any _ _).mono ?_; rintro e w' ⟨rfl, rfl⟩) | (go_at_call 18; refine (refSigned_any _ _).mono ?_; rintro e w' ⟨rfl, rfl⟩))
    go_ret2
    exact ⟨rfl, rfl⟩
theorem refTaken_51 (x y : Int) (w : World) : Calls Try.prog 21 #[.int .i64 51, .int .i64 x, .int .i64 y] w fun e w' => e = .returned (.tuple #[.bool (tkn 51 x y), .bool true]) ∧ w = w' := by
  have ex := S_W x
  have ey := S_W y
  by_cases h : S x < S y
  · have hb2 : decide (S y ≤ S x) = false := by simp; omega
    have hb : decide (S x < S y) = true := by simp [h]
    have hv : tkn 51 x y = false := by simp [tkn, h]
    rw [hv]; clear hv
    go_enter Try.func21, Try.ntmps21
    go_wp2_with (first | (go_at_call 17; refine (refW_any _ _).mono ?_; rintro e w' ⟨rfl, rfl⟩) | (go_at_call 18; refine (refSigned_any _ _).mono ?_; rintro e w' ⟨rfl, rfl⟩))
    go_ret2
    exact ⟨rfl, rfl⟩
  · have hb2 : decide (S y ≤ S x) = true := by simp; omega
    have hb : decide (S x < S y) = false := by simp [h]
    have hv : tkn 51 x y = true := by simp [tkn, h]
    rw [hv]; clear hv
    go_enter Try.func21, Try.ntmps21
    go_wp2_with (first | (go_at_call 17; refine (refW_any _ _).mono ?_; rintro e w' ⟨rfl, rfl⟩) | (go_at_call 18; refine (refSigned_any _ _).mono ?_; rintro e w' ⟨rfl, rfl⟩))
    go_ret2
    exact ⟨rfl, rfl⟩
theorem refTaken_52 (x y : Int) (w : World) : Calls Try.prog 21 #[.int .i64 52, .int .i64 x, .int .i64 y] w fun e w' => e = .returned (.tuple #[.bool (tkn 52 x y), .bool true]) ∧ w = w' := by
  have ex := S_W x
  have ey := S_W y
  by_cases h : W x < W y
  · have hb2 : decide (W y ≤ W x) = false := by simp; omega
    have hb : decide (W x < W y) = true := by simp [h]
    have hv : tkn 52 x y = true := by simp [tkn, h]
    rw [hv]; clear hv
    go_enter Try.func21, Try.ntmps21
    go_wp2_with (first | (go_at_call 17; refine (refW_any _ _).mono ?_; rintro e w' ⟨rfl, rfl⟩) | (go_at_call 18; refine (refSigned_any _ _).mono ?_; rintro e w' ⟨rfl, rfl⟩))
    go_ret2
    exact ⟨rfl, rfl⟩
  · have hb2 : decide (W y ≤ W x) = true := by simp; omega
    have hb : decide (W x < W y) = false := by simp [h]
    have hv : tkn 52 x y = false := by simp [tkn, h]
    rw [hv]; clear hv
    go_enter Try.func21, Try.ntmps21
    go_wp2_with (first | (go_at_call 17; refine (refW_any _ _).mono ?_; rintro e w' ⟨rfl, rfl⟩) | (go_at_call 18; refine (refSigned_any _ _).mono ?_; rintro e w' ⟨rfl, rfl⟩))
    go_ret2
    exact ⟨rfl, rfl⟩
theorem refTaken_53 (x y : Int) (w : World) : Calls Try.prog 21 #[.int .i64 53, .int .i64 x, .int .i64 y] w fun e w' => e = .returned (.tuple #[.bool (tkn 53 x y), .bool true]) ∧ w = w' := by
  have ex := S_W x
  have ey := S_W y
  by_cases h : W x < W y
  · have hb2 : decide (W y ≤ W x) = false := by simp; omega
    have hb : decide (W x < W y) = true := by simp [h]
    have hv : tkn 53 x y = false := by simp [tkn, h]
    rw [hv]; clear hv
    go_enter Try.func21, Try.ntmps21
    go_wp2_with (first | (go_at_call 17; refine (refW_any _ _).mono ?_; rintro e w' ⟨rfl, rfl⟩) | (go_at_call 18; refine (refSigned_any _ _).mono ?_; rintro e w' ⟨rfl, rfl⟩))
    go_ret2
    exact ⟨rfl, rfl⟩
  · have hb2 : decide (W y ≤ W x) = true := by simp; omega
    have hb : decide (W x < W y) = false := by simp [h]
    have hv : tkn 53 x y = true := by simp [tkn, h]
    rw [hv]; clear hv
    go_enter Try.func21, Try.ntmps21
    go_wp2_with (first | (go_at_call 17; refine (refW_any _ _).mono ?_; rintro e w' ⟨rfl, rfl⟩) | (go_at_call 18; refine (refSigned_any _ _).mono ?_; rintro e w' ⟨rfl, rfl⟩))
    go_ret2
    exact ⟨rfl, rfl⟩
theorem refTaken_any (op x y : Int) (w : World) : Calls Try.prog 21 #[.int .i64 op, .int .i64 x, .int .i64 y] w fun e w' => e = .returned (.tuple #[.bool (tkn op x y), .bool (brB op)]) ∧ w = w' := by
  by_cases h : op < 48 ∨ 53 < op
  · obtain ⟨e1, e2⟩ := tkn_no op x y h
    rw [e1, e2]; exact refTaken_no op x y w h
  · rcases (show op = 48 ∨ op = 49 ∨ op = 50 ∨ op = 51 ∨ op = 52 ∨ op = 53 by omega) with rfl | rfl | rfl | rfl | rfl | rfl
    · exact refTaken_48 x y w
    · exact refTaken_49 x y w
    · exact refTaken_50 x y w
    · exact refTaken_51 x y w
    · exact refTaken_52 x y w
    · exact refTaken_53 x y w
end Go.Proofs.Ytodkenbkogfefaa
