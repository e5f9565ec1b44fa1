/- Plain facts on whole numbers and their bits, with no program in sight: words of 32 bits as remainders, Go's '&', '|', '^', '&^' of 64-bit numbers as the same of natural numbers. No conditions but those that each states. -/
import Derived.Laws.BitsAllLaws
import Derived.IntWalk
namespace Go.Proofs.Ytdnmjhkgibaadaa
open Go.RowKit

/-- The lowest 32 bits of a number. -/
def W (n : Int) : Int := n % 4294967296
/-- The lowest 32 bits of a number, with a sign. -/
def S (n : Int) : Int := (n + 2147483648) % 4294967296 - 2147483648
/-- The 64 bits of a number, as a natural number. -/
def U (n : Int) : Nat := (n % 18446744073709551616).toNat

theorem U_cast (n : Int) : ((U n : Nat) : Int) = n % 18446744073709551616 := by unfold U; omega
theorem U_lt (n : Int) : U n < 18446744073709551616 := by unfold U; omega

theorem ofInt64 (a : Int) : (BitVec.ofInt 64 a).toNat = U a := by rw [BitVec.toNat_ofInt]; rfl
theorem and64 (a b : Int) : bits .and .i64 a b = IntKind.i64.wrap ((U a &&& U b : Nat) : Int) := by
  show IntKind.i64.wrap ((BitVec.ofInt 64 a &&& BitVec.ofInt 64 b).toNat : Int) = _
  rw [BitVec.toNat_and, ofInt64, ofInt64]
theorem or64 (a b : Int) : bits .or .i64 a b = IntKind.i64.wrap ((U a ||| U b : Nat) : Int) := by
  show IntKind.i64.wrap ((BitVec.ofInt 64 a ||| BitVec.ofInt 64 b).toNat : Int) = _
  rw [BitVec.toNat_or, ofInt64, ofInt64]
theorem xor64 (a b : Int) : bits .xor .i64 a b = IntKind.i64.wrap ((U a ^^^ U b : Nat) : Int) := by
  show IntKind.i64.wrap ((BitVec.ofInt 64 a ^^^ BitVec.ofInt 64 b).toNat : Int) = _
  rw [BitVec.toNat_xor, ofInt64, ofInt64]
theorem andNot64 (a b : Int) : bits .andNot .i64 a b = IntKind.i64.wrap ((U a &&& (18446744073709551615 - U b) : Nat) : Int) := by
  show IntKind.i64.wrap ((BitVec.ofInt 64 a &&& ~~~BitVec.ofInt 64 b).toNat : Int) = _
  rw [BitVec.toNat_and, BitVec.toNat_not, ofInt64, ofInt64]

theorem W_wrap64 (n : Int) : W (IntKind.i64.wrap n) = W n := by rw [IntKind.wrap_i64]; unfold W; omega
theorem W_wrap (n : Int) : W (wrap64 n) = W n := by unfold wrap64 W; omega
theorem W_u32 (n : Int) : IntKind.u32.wrap n = W n := IntKind.wrap_u32 n
theorem S_i32 (n : Int) : IntKind.i32.wrap n = S n := IntKind.wrap_i32 n
theorem W_bd (n : Int) : 0 ≤ W n ∧ W n ≤ 4294967295 := by unfold W; omega
theorem S_bd (n : Int) : -2147483648 ≤ S n ∧ S n ≤ 2147483647 := by unfold S; omega
theorem W_W (n : Int) : W (W n) = W n := by unfold W; omega
theorem S_W (n : Int) : S (W n) = S n := by unfold W S; omega
theorem W_S (n : Int) : W (S n) = W n := by unfold W S; omega
theorem S_eq (n : Int) : S n = if 2147483647 < W n then W n - 4294967296 else W n := by unfold W S; split <;> omega
theorem W_of (n : Int) (h : 0 ≤ n ∧ n ≤ 4294967295) : W n = n := by unfold W; omega
theorem W_add (a b : Int) : W (W a + W b) = W (a + b) := by unfold W; omega
theorem W_sub (a b : Int) : W (W a - W b) = W (a - b) := by unfold W; omega
theorem W_mul (a b : Int) : W (W a * W b) = W (a * b) := by unfold W; rw [← Int.mul_emod]
theorem W_mul_l (a b : Int) : W (W a * b) = W (a * b) := by unfold W; rw [Int.mul_emod, Int.emod_emod_of_dvd _ (Int.dvd_refl _), ← Int.mul_emod]

/-- A mask of the lowest k bits leaves the remainder. -/
theorem and_mask_nat (n : Int) (p : Nat) (hd : p ∣ 18446744073709551616) (hp : 0 < p) (h : p ≤ 4611686018427387904) (e : U n &&& U ((p : Int) - 1) = U n % p) : bits .and .i64 n ((p : Int) - 1) = n % p := by
  rw [and64, e]
  have hm : ((U n % p : Nat) : Int) = n % p := by
    rw [Int.natCast_emod, U_cast]
    exact Int.emod_emod_of_dvd n (Int.natCast_dvd_natCast.2 hd)
  rw [hm]
  have h1 : n % (p : Int) < p := Int.emod_lt_of_pos _ (by omega)
  have h0 : 0 ≤ n % (p : Int) := Int.emod_nonneg _ (by omega)
  exact IntWalk.i64_in _ (by omega)
theorem and_mask (n : Int) (k : Nat) (hk : k ≤ 62) : bits .and .i64 n (((2 ^ k : Nat) : Int) - 1) = n % ((2 ^ k : Nat) : Int) := by
  have h2 : (2 : Nat) ^ k ≤ 2 ^ 62 := Nat.pow_le_pow_right (by decide) hk
  have hp : 0 < 2 ^ k := Nat.two_pow_pos k
  have hd : (2 : Nat) ^ k ∣ 18446744073709551616 := (Nat.pow_dvd_pow 2 (show k ≤ 64 by omega) : 2 ^ k ∣ 2 ^ 64)
  refine and_mask_nat n (2 ^ k) hd hp h2 ?_
  have hu : U (((2 ^ k : Nat) : Int) - 1) = 2 ^ k - 1 := by
    generalize (2 : Nat) ^ k = p at *
    unfold U; omega
  rw [hu, Nat.and_two_pow_sub_one_eq_mod]
theorem and_word (n : Int) : bits .and .i64 n 4294967295 = W n := and_mask n 32 (by decide)
theorem and_31 (n : Int) : bits .and .i64 n 31 = n % 32 := and_mask n 5 (by decide)
theorem and_1 (n : Int) : bits .and .i64 n 1 = n % 2 := and_mask n 1 (by decide)
theorem and_3 (n : Int) : bits .and .i64 n 3 = n % 4 := and_mask n 2 (by decide)
theorem and_7 (n : Int) : bits .and .i64 n 7 = n % 8 := and_mask n 3 (by decide)
theorem and_255 (n : Int) : bits .and .i64 n 255 = n % 256 := and_mask n 8 (by decide)
theorem and_65535 (n : Int) : bits .and .i64 n 65535 = n % 65536 := and_mask n 16 (by decide)

theorem wrap32_W (n : Int) : wrap32 (n % 4294967296) = S n := by unfold wrap32 S; omega
theorem wrap64_S (n : Int) : wrap64 (S n) = S n := by unfold wrap64 S; omega
theorem pow_pos (k : Nat) : (0 : Int) < 2 ^ k := Int.pow_pos (by decide)
theorem div_bd (a d m : Int) (h0 : 0 ≤ a) (h1 : a ≤ m) (hd : 0 < d) : 0 ≤ a / d ∧ a / d ≤ m :=
  ⟨Int.ediv_nonneg h0 (by omega), Int.le_trans (Int.ediv_le_self d h0) h1⟩

/-- Quotient and rest of words. -/
def qdiv (a b : Int) : Int := if W b = 0 then 4294967295 else W a / W b
def rrem (a b : Int) : Int := if W b = 0 then W a else W a % W b

/-- Shifts of a word by the lowest five bits of a number. -/
def shl (a n : Int) : Int := W (a * 2 ^ (n % 32).toNat)
def shr (a n : Int) : Int := W a / 2 ^ (n % 32).toNat
def sra (a n : Int) : Int := W (S a / 2 ^ (n % 32).toNat)
theorem shl_of (a n : Int) : a % 4294967296 * 2 ^ (n % 32).toNat % 4294967296 = shl a n := by
  unfold shl; rw [← W_mul_l]; rfl
theorem shl_of' (a n : Int) : W (wrap64 (W a * 2 ^ (n % 32).toNat)) = shl a n := by
  rw [W_wrap, W_mul_l]; rfl
theorem shr_of (a n : Int) : wrap64 (a % 4294967296 / 2 ^ (n % 32).toNat) = shr a n := by
  have h := div_bd (a % 4294967296) (2 ^ (n % 32).toNat) 4294967295 (by omega) (by omega) (pow_pos _)
  unfold shr W; exact IntWalk.wrap64_in _ (by omega)

/-- The bits of a word from one down to another one. -/
def bt (w high low : Int) : Int := if high > 31 ∨ low < 0 ∨ high < low then 0 else W w / 2 ^ low.toNat % 2 ^ (high - low + 1).toNat
/-- The lowest n bits of a number, with a sign, as a word. -/
def sx (w : Int) (m : Nat) : Int := (w + 2 ^ (m - 1)) % 2 ^ m - 2 ^ (m - 1)
def ext (w n : Int) : Int := if n < 1 then 0 else W (sx w (min n 32).toNat)
theorem mask_of (k : Nat) (h : k ≤ 62) : wrap64 (wrap64 (2 ^ k) - 1) = ((2 ^ k : Nat) : Int) - 1 := by
  have h2 : (2 : Nat) ^ k ≤ 2 ^ 62 := Nat.pow_le_pow_right (by decide) h
  have hp : 0 < 2 ^ k := Nat.two_pow_pos k
  rw [show ((2 : Int) ^ k) = ((2 ^ k : Nat) : Int) from by simp]
  generalize (2 : Nat) ^ k = p at *
  unfold wrap64; omega
theorem wrap_pow (k : Nat) (h : k ≤ 62) : wrap64 (2 ^ k) = 2 ^ k := by
  have h2 : (2 : Nat) ^ k ≤ 2 ^ 62 := Nat.pow_le_pow_right (by decide) h
  rw [show ((2 : Int) ^ k) = ((2 ^ k : Nat) : Int) from by simp]
  generalize (2 : Nat) ^ k = p at *
  unfold wrap64; omega
theorem and_pow (n : Int) (k : Nat) (h : k ≤ 62) : bits .and .i64 n (wrap64 (wrap64 (2 ^ k) - 1)) = n % 2 ^ k := by
  rw [mask_of k h, and_mask n k h]; simp

theorem bt_nat (x s l k : Nat) (h : s + l + k = 32) : x * 2 ^ s % 4294967296 / 2 ^ (s + l) = x / 2 ^ l % 2 ^ k := by
  have e : 4294967296 = 2 ^ (l + k) * 2 ^ s := by rw [← Nat.pow_add, show l + k + s = 32 by omega]
  rw [e, Nat.mul_mod_mul_right, Nat.add_comm s l, Nat.pow_add 2 l s, Nat.mul_div_mul_right _ _ (Nat.two_pow_pos s), Nat.pow_add, Nat.mod_mul_right_div_self]
theorem bt_of (a high low : Int) (h1 : high ≤ 31) (h2 : 0 ≤ low) (h3 : low ≤ high) :
    wrap64 (a % 4294967296 * 2 ^ (31 - high).toNat % 4294967296 / 2 ^ (31 - high + low).toNat) = W a / 2 ^ low.toNat % 2 ^ (high - low + 1).toNat := by
  obtain ⟨x, hx⟩ := Int.eq_ofNat_of_zero_le (show 0 ≤ a % 4294967296 by omega)
  unfold W; rw [hx]
  have e : (31 - high + low).toNat = (31 - high).toNat + low.toNat := by omega
  have h := bt_nat x (31 - high).toNat low.toNat (high - low + 1).toNat (by omega)
  have hi : ((x * 2 ^ (31 - high).toNat % 4294967296 / 2 ^ ((31 - high).toNat + low.toNat) : Nat) : Int) = ((x / 2 ^ low.toNat % 2 ^ (high - low + 1).toNat : Nat) : Int) := by rw [h]
  rw [e]
  have hb : ((x * 2 ^ (31 - high).toNat % 4294967296 / 2 ^ ((31 - high).toNat + low.toNat) : Nat) : Int) ≤ 4294967295 := by
    have := Nat.div_le_self (x * 2 ^ (31 - high).toNat % 4294967296) (2 ^ ((31 - high).toNat + low.toNat))
    omega
  simp only [Int.natCast_ediv, Int.natCast_emod, Int.natCast_mul, Int.natCast_pow] at hi hb
  have hb0 : (0 : Int) ≤ (x : Int) * 2 ^ (31 - high).toNat % 4294967296 / 2 ^ ((31 - high).toNat + low.toNat) := Int.ediv_nonneg (by omega) (by have := pow_pos ((31 - high).toNat + low.toNat); omega)
  rw [IntWalk.wrap64_in _ ⟨by omega, by exact Int.le_trans hb (by omega)⟩]
  exact hi

theorem sx_eq (a : Int) (m : Nat) (h : 1 ≤ m) : sx a m = if 2 ^ (m - 1) ≤ a % 2 ^ m then a % 2 ^ m - 2 ^ m else a % 2 ^ m := by
  obtain ⟨k, rfl⟩ : ∃ k, m = k + 1 := ⟨m - 1, by omega⟩
  unfold sx
  simp only [Nat.add_sub_cancel]
  have hp := pow_pos k
  rw [Int.pow_succ]
  generalize (2 : Int) ^ k = p at *
  have h0 := Int.emod_nonneg a (show p * 2 ≠ 0 by omega)
  have h1 := Int.emod_lt_of_pos a (show 0 < p * 2 by omega)
  rw [Int.add_emod, ← Int.emod_emod_of_dvd (a % (p * 2) + p % (p * 2)) (Int.dvd_refl _)]
  rw [Int.emod_eq_of_lt (show 0 ≤ p by omega) (show p < p * 2 by omega)]
  rw [Int.emod_emod_of_dvd _ (Int.dvd_refl _)]
  generalize a % (p * 2) = r at *
  split
  · rw [show r + p = (r + p - p * 2) + p * 2 by omega, Int.add_emod_right, Int.emod_eq_of_lt (by omega) (by omega)]; omega
  · rw [Int.emod_eq_of_lt (by omega) (by omega)]; omega
theorem pow32 (m : Nat) (h : m ≤ 32) : (2 : Int) ^ m ∣ 4294967296 := by
  exact ⟨2 ^ (32 - m), by rw [← Int.pow_add, show m + (32 - m) = 32 by omega]; rfl⟩
theorem ext_of (a : Int) (m : Nat) (h1 : 1 ≤ m) (h2 : m ≤ 32) :
    wrap64 (wrap32 (a % 4294967296 * 2 ^ (32 - m) % 4294967296) / 2 ^ (32 - m)) = sx a m := by
  obtain ⟨k, rfl⟩ : ∃ k, m = k + 1 := ⟨m - 1, by omega⟩
  have hs : (2147483648 : Int) = 2 ^ k * 2 ^ (32 - (k + 1)) := by
    rw [← Int.pow_add, show k + (32 - (k + 1)) = 31 by omega]; rfl
  have h0 := pow_pos (32 - (k + 1))
  have hk := pow_pos k
  have hd : (2 : Int) ^ (k + 1) ∣ 4294967296 := pow32 _ h2
  rw [wrap32_W]
  unfold S sx
  have e32 : (4294967296 : Int) = 2 ^ (k + 1) * 2 ^ (32 - (k + 1)) := by
    rw [← Int.pow_add, show (k + 1) + (32 - (k + 1)) = 32 by omega]; rfl
  rw [Nat.add_sub_cancel]
  have e1 : a % 4294967296 * 2 ^ (32 - (k + 1)) + 2147483648 = (a % 4294967296 + 2 ^ k) * 2 ^ (32 - (k + 1)) := by
    rw [Int.add_mul, ← hs]
  have e2 : (a % 4294967296 + 2 ^ k) % 2 ^ (k + 1) = (a + 2 ^ k) % 2 ^ (k + 1) := by
    rw [Int.add_emod, Int.emod_emod_of_dvd _ hd, ← Int.add_emod]
  have e3 : (a % 4294967296 * 2 ^ (32 - (k + 1)) + 2147483648) % 4294967296 - 2147483648 = ((a + 2 ^ k) % 2 ^ (k + 1) - 2 ^ k) * 2 ^ (32 - (k + 1)) := by
    rw [e1]
    conv => lhs; lhs; rhs; rw [e32]
    conv => lhs; rhs; rw [hs]
    rw [Int.mul_comm (a % 4294967296 + 2 ^ k), Int.mul_comm (2 ^ (k + 1)), Int.mul_emod_mul_of_pos _ _ h0, e2, Int.mul_comm, ← Int.sub_mul]
  rw [e3, Int.mul_ediv_cancel _ (by omega)]
  refine IntWalk.wrap64_in _ ?_
  have hb0 := Int.emod_nonneg (a + 2 ^ k) (show (2 : Int) ^ (k + 1) ≠ 0 by have := pow_pos (k + 1); omega)
  have hb1 := Int.emod_lt_of_pos (a + 2 ^ k) (pow_pos (k + 1))
  have hle : (2 : Int) ^ (k + 1) ≤ 4294967296 := Int.le_of_dvd (by decide) hd
  have hle' : (2 : Int) ^ k ≤ 4294967296 := Int.le_of_dvd (by decide) (pow32 k (by omega))
  omega
theorem half (a : Int) (m : Nat) (h : 1 ≤ m) : (a % 2 ^ m / 2 ^ (m - 1) == 1) = decide (2 ^ (m - 1) ≤ a % 2 ^ m) := by
  obtain ⟨k, rfl⟩ : ∃ k, m = k + 1 := ⟨m - 1, by omega⟩
  rw [Nat.add_sub_cancel, Int.pow_succ]
  have hp := pow_pos k
  generalize (2 : Int) ^ k = p at *
  have h0 := Int.emod_nonneg a (show p * 2 ≠ 0 by omega)
  have h1 := Int.emod_lt_of_pos a (show 0 < p * 2 by omega)
  generalize a % (p * 2) = r at *
  by_cases hr : p ≤ r
  · have : r / p = 1 := by
      rw [show r = (r - p) + 1 * p by omega, Int.add_mul_ediv_right _ _ (by omega), Int.ediv_eq_zero_of_lt (by omega) (by omega)]; rfl
    simp [this, hr]
  · have : r / p = 0 := Int.ediv_eq_zero_of_lt (by omega) (by omega)
    simp [this, hr]
theorem refExt_hi (a : Int) (m : Nat) (h1 : 1 ≤ m) (h2 : m ≤ 32) (h : (bits .and .i64 a (wrap64 (wrap64 (2 ^ m) - 1)) / 2 ^ (m - 1) == 1) = true) :
    W (wrap64 (bits .and .i64 a (wrap64 (wrap64 (2 ^ m) - 1)) - wrap64 (2 ^ m))) = W (sx a m) := by
  rw [and_pow a m (by omega), half a m h1, decide_eq_true_eq] at h
  rw [W_wrap, and_pow a m (by omega), wrap_pow m (by omega), sx_eq a m h1, if_pos h]
theorem refExt_lo (a : Int) (m : Nat) (h1 : 1 ≤ m) (h2 : m ≤ 32) (h : (bits .and .i64 a (wrap64 (wrap64 (2 ^ m) - 1)) / 2 ^ (m - 1) == 1) = false) :
    W (bits .and .i64 a (wrap64 (wrap64 (2 ^ m) - 1))) = W (sx a m) := by
  rw [and_pow a m (by omega), half a m h1, decide_eq_false_iff_not] at h
  rw [and_pow a m (by omega), sx_eq a m h1, if_neg h]
theorem ext_eq (a n : Int) (h1 : 1 ≤ n) (h2 : n ≤ 32) : ext a n = W (sx a n.toNat) := by
  unfold ext; rw [if_neg (by omega), show min n 32 = n by omega]
theorem ext_big (a n : Int) (h : 32 < n) : ext a n = W a := by
  unfold ext; rw [if_neg (by omega), show min n 32 = 32 by omega]
  show W (sx a 32) = W a
  unfold sx W; omega
theorem ext_zero (a n : Int) (h : n < 1) : ext a n = 0 := if_pos h
theorem xor_top (s : Nat) (h : s < 2 ^ 31) : s ^^^ 2 ^ 31 = 2 ^ 31 + s := by
  apply Nat.eq_of_testBit_eq
  intro i
  rw [Nat.testBit_xor, Nat.testBit_two_pow]
  rcases Nat.lt_trichotomy i 31 with hi | hi | hi
  · rw [Nat.testBit_two_pow_add_gt hi, show decide (31 = i) = false by simp; omega, Bool.xor_false]
  · subst hi
    rw [Nat.testBit_two_pow_add_eq, Nat.testBit_lt_two_pow h]; simp
  · have h2 : 2 ^ 31 + s < 2 ^ i := Nat.lt_of_lt_of_le (by omega) (Nat.pow_le_pow_right (by decide) (show 32 ≤ i by omega))
    rw [Nat.testBit_lt_two_pow h2, Nat.testBit_lt_two_pow (Nat.lt_trans h (by omega))]; simp; omega
theorem xor_top' (r : Nat) (h : r < 4294967296) : r ^^^ 2147483648 = (r + 2147483648) % 4294967296 := by
  by_cases hr : r < 2 ^ 31
  · rw [show (2147483648 : Nat) = 2 ^ 31 from rfl, xor_top r hr]; omega
  · have h2 := xor_top (r - 2 ^ 31) (by omega)
    have h3 : 2 ^ 31 + (r - 2 ^ 31) = r := by omega
    rw [h3] at h2
    rw [show (2147483648 : Nat) = 2 ^ 31 from rfl]
    conv => lhs; rw [← h2]
    rw [Nat.xor_assoc, Nat.xor_self, Nat.xor_zero]; omega
theorem W_nat (n : Nat) : W (n : Int) = ((n % 4294967296 : Nat) : Int) := by unfold W; omega
theorem U_W (n : Int) : ((U n % 4294967296 : Nat) : Int) = W n := by unfold U W; omega
theorem W_xor_top (a : Int) : W (bits .xor .i64 a 2147483648) = S a + 2147483648 := by
  rw [xor64, W_wrap64, W_nat, show (4294967296 : Nat) = 2 ^ 32 from rfl, Nat.xor_mod_two_pow, show U 2147483648 % 2 ^ 32 = 2147483648 from rfl, xor_top' _ (Nat.mod_lt _ (by decide))]
  have := U_W a
  unfold S W at *
  omega

/-- The 64 bits of a number as a row of bits. -/
def B (a : Int) : BitVec 64 := BitVec.ofInt 64 a
theorem B_toInt (r : BitVec 64) : B r.toInt = r := BitVec.ofInt_toInt
theorem wrap_toNat (r : BitVec 64) : IntKind.i64.wrap (r.toNat : Int) = r.toInt := by
  have h := r.isLt
  rw [IntKind.wrap_i64, BitVec.toInt_eq_toNat_cond]
  split <;> omega
theorem andB (a b : Int) : bits .and .i64 a b = (B a &&& B b).toInt := wrap_toNat _
theorem orB (a b : Int) : bits .or .i64 a b = (B a ||| B b).toInt := wrap_toNat _
theorem xorB (a b : Int) : bits .xor .i64 a b = (B a ^^^ B b).toInt := wrap_toNat _
theorem andNotB (a b : Int) : bits .andNot .i64 a b = (B a &&& ~~~B b).toInt := wrap_toNat _
theorem W_B (a : Int) : W a = (B a &&& 4294967295#64).toInt := by rw [← and_word, andB]; rfl
theorem and_two_pow' (x k : Nat) : x &&& 2 ^ k = if x / 2 ^ k % 2 = 1 then 2 ^ k else 0 := by
  apply Nat.eq_of_testBit_eq
  intro i
  rw [Nat.testBit_and, Nat.testBit_two_pow]
  by_cases h : k = i
  · subst h
    rw [Nat.testBit_eq_decide_div_mod_eq]
    split <;> rename_i hx <;> simp [hx]
  · split <;> simp [h]
theorem and_bit (n : Int) (k : Nat) (hk : k ≤ 61) : bits .and .i64 n ((2 ^ k : Nat) : Int) = n / ((2 ^ k : Nat) : Int) % 2 * ((2 ^ k : Nat) : Int) := by
  have h2 : (2 : Nat) ^ k ≤ 2 ^ 61 := Nat.pow_le_pow_right (by decide) hk
  have hp : 0 < 2 ^ k := Nat.two_pow_pos k
  have hu : U ((2 ^ k : Nat) : Int) = 2 ^ k := by
    generalize (2 : Nat) ^ k = p at *
    unfold U; omega
  rw [and64, hu, and_two_pow']
  have hq : U n / 2 ^ k % 2 = (n / ((2 ^ k : Nat) : Int) % 2).toNat := by
    obtain ⟨c, hc⟩ : (2 ^ k * 2 : Nat) ∣ 18446744073709551616 := (Nat.pow_dvd_pow 2 (show k + 1 ≤ 64 by omega) : 2 ^ (k + 1) ∣ 2 ^ 64)
    generalize (2 : Nat) ^ k = p at *
    have e1 : ((U n / p % 2 : Nat) : Int) = n % 18446744073709551616 / p % 2 := by rw [Int.natCast_emod, Int.natCast_ediv, U_cast]; rfl
    have e2 : n % 18446744073709551616 / (p : Int) % 2 = n / (p : Int) % 2 := by
      have hn := Int.mul_ediv_add_emod n 18446744073709551616
      have hc' : (18446744073709551616 : Int) = p * (2 * c) := by
        have := congrArg (Nat.cast (R := Int)) hc
        rw [Int.natCast_mul, Int.natCast_mul] at this
        rw [Int.mul_comm 2, ← Int.mul_assoc, Int.mul_assoc, Int.mul_comm (c : Int), ← Int.mul_assoc]
        exact this
      conv => rhs; rw [← hn]
      rw [hc', Int.mul_assoc, Int.mul_assoc, Int.add_comm, Int.add_mul_ediv_left _ _ (by omega), Int.add_mul_emod_self_left]
    rw [e2] at e1
    omega
  rw [hq]
  generalize (2 : Nat) ^ k = p at *
  have hr : n / (p : Int) % 2 = 0 ∨ n / (p : Int) % 2 = 1 := by omega
  rcases hr with hr | hr <;> rw [hr] <;> simp
  · rfl
  · exact IntWalk.i64_in _ (by omega)
theorem and_2 (n : Int) : bits .and .i64 n 2 = n / 2 % 2 * 2 := and_bit n 1 (by decide)
theorem and_4 (n : Int) : bits .and .i64 n 4 = n / 4 % 2 * 4 := and_bit n 2 (by decide)
theorem and_8 (n : Int) : bits .and .i64 n 8 = n / 8 % 2 * 8 := and_bit n 3 (by decide)
theorem and_5 (n : Int) : bits .and .i64 n 5 = n % 2 + n / 4 % 2 * 4 := by
  have h : ∀ x y : BitVec 64, (x &&& 5#64) = ((x &&& 1#64) ||| (x &&& 4#64)) := by
    intro x _; rw [← BitVec.and_or_distrib_left]; rfl
  have e : bits .and .i64 n 5 = bits .or .i64 (bits .and .i64 n 1) (bits .and .i64 n 4) := by
    rw [orB, andB, andB, andB, B_toInt, B_toInt]
    exact congrArg BitVec.toInt (h (B n) (B n))
  rw [e, and_1, and_4]
  have h1 : n % 2 = 0 ∨ n % 2 = 1 := by omega
  have h2 : n / 4 % 2 = 0 ∨ n / 4 % 2 = 1 := by omega
  rcases h1 with h1 | h1 <;> rcases h2 with h2 | h2 <;> rw [h1, h2] <;> rfl
end Go.Proofs.Ytdnmjhkgibaadaa
