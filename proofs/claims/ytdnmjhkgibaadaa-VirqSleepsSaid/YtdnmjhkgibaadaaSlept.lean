/- VirqSleeps in plain: how many steps the machine sleeps; the machine that the law lays. -/
import Derived.Test.YtdnmjhkgibaadaaVirqLaw
import Derived.Test.YtdnmjhkgibaadaaMState
namespace Go.Proofs.Ytdnmjhkgibaadaa
open Go.RowKit

def fcL (st tm cp ie : Int) (k : Nat) : Int := ([st, 64, 0, 0, 0, 0, 0, tm, cp, 0, ie] : List Int).getD k 0
theorem pend01 (t c : Int) (ht : 0 ≤ t ∧ t ≤ 1000) (hc : 0 ≤ c ∧ c ≤ 400) : (pendI t c 0 0 = 1 ∧ c ≠ 0 ∧ c ≤ t) ∨ (pendI t c 0 0 = 0 ∧ (c = 0 ∨ t < c)) := by
  unfold pendI
  rw [W_of t (by omega), W_of c (by omega)]
  by_cases h : c ≠ 0 ∧ c ≤ t
  · rw [if_pos h]; exact .inl ⟨rfl, h⟩
  · rw [if_neg h]; exact .inr ⟨rfl, by omega⟩
theorem and_ie : ∀ n : Nat, n < 8 → bits .and .i64 0 (n : Int) = 0 ∧ bits .and .i64 1 (n : Int) = (n : Int) % 2 := by decide
theorem slept (st tm cp ie : Int) (hst : st = 4 ∨ st = 5) (ht : 0 ≤ tm ∧ tm ≤ 200) (hc : 0 ≤ cp ∧ cp ≤ 400) (hi : 0 ≤ ie ∧ ie ≤ 7) :
    ∃ n : Nat, n ≤ 450 ∧
      ((slp (fun k => if k = 9 then pendI tm cp 0 0 else fcL st tm cp ie k) 11 0 0 = (0, false) ∧ n = 450 ∧ ∀ t, tm ≤ t → t ≤ tm + 450 → bits .and .i64 (pendI t cp 0 0) ie = 0) ∨
       (slp (fun k => if k = 9 then pendI tm cp 0 0 else fcL st tm cp ie k) 11 0 0 = ((n : Int), true) ∧ (∀ t, tm ≤ t → t < tm + n → bits .and .i64 (pendI t cp 0 0) ie = 0) ∧ bits .and .i64 (pendI (tm + n) cp 0 0) ie = 1)) := by
  have c7 : cv (fun k => if k = 9 then pendI tm cp 0 0 else fcL st tm cp ie k) 11 7 = tm := by show W tm = tm; exact W_of _ (by omega)
  have c8 : cv (fun k => if k = 9 then pendI tm cp 0 0 else fcL st tm cp ie k) 11 8 = cp := by show W cp = cp; exact W_of _ (by omega)
  have c10 : cv (fun k => if k = 9 then pendI tm cp 0 0 else fcL st tm cp ie k) 11 10 = ie := by show W ie = ie; exact W_of _ (by omega)
  have c0 : cv (fun k => if k = 9 then pendI tm cp 0 0 else fcL st tm cp ie k) 11 0 = st := by show W st = st; exact W_of _ (by omega)
  have hand : bits .and .i64 0 ie = 0 ∧ bits .and .i64 1 ie = ie % 2 := by
    have h := and_ie ie.toNat (by omega)
    rw [Int.toNat_of_nonneg hi.1] at h; exact h
  have hq : ∀ t, 0 ≤ t → t ≤ 1000 → (bits .and .i64 (pendI t cp 0 0) ie = 1 ∧ cp ≠ 0 ∧ cp ≤ t ∧ ie % 2 = 1) ∨ (bits .and .i64 (pendI t cp 0 0) ie = 0 ∧ (cp = 0 ∨ t < cp ∨ ie % 2 = 0)) := by
    intro t h0 h1
    rcases pend01 t cp ⟨h0, h1⟩ hc with ⟨e, n0, n1⟩ | ⟨e, n0⟩
    · rw [e, hand.2]
      by_cases h : ie % 2 = 0
      · exact .inr ⟨h, .inr (.inr h)⟩
      · exact .inl ⟨by omega, n0, n1, by omega⟩
    · rw [e]; exact .inr ⟨hand.1, by omega⟩
  have hs4 : ¬ (st / 4 % 2 = 0) := by omega
  rcases hq tm (by omega) (by omega) with ⟨e, n0, n1, n2⟩ | ⟨e, n0⟩
  · refine ⟨0, by omega, .inr ⟨?_, fun t h0 h1 => by omega, ?_⟩⟩
    · unfold slp; rw [c7, c8, c10, c0, if_pos (.inl (by rw [e]; decide))]; rfl
    · rw [show tm + ((0 : Nat) : Int) = tm by omega]; exact e
  · by_cases h : ie % 2 = 0 ∨ cp = 0
    · refine ⟨450, by omega, .inl ⟨?_, rfl, fun t h0 h1 => ?_⟩⟩
      · unfold slp; rw [c7, c8, c10, c0, if_neg (by rw [e]; simp; omega), if_pos h]
      · rcases hq t (by omega) (by omega) with ⟨_, m0, m1, m2⟩ | ⟨e, _⟩
        · omega
        · exact e
    · refine ⟨(cp - tm).toNat, by omega, .inr ⟨?_, fun t h0 h1 => ?_, ?_⟩⟩
      · unfold slp; rw [c7, c8, c10, c0, if_neg (by rw [e]; simp; omega), if_neg h, W_of _ (by omega), Int.toNat_of_nonneg (by omega)]
      · rcases hq t (by omega) (by omega) with ⟨_, m0, m1, m2⟩ | ⟨e, _⟩
        · omega
        · exact e
      · rcases hq (tm + ((cp - tm).toNat : Nat)) (by omega) (by omega) with ⟨e, _⟩ | ⟨_, m⟩
        · exact e
        · omega
theorem tk0 (st : Int) : tkB st 0 = false := rfl
theorem tk4 : tkB 4 1 = false := by decide
theorem tk5 : tkB 5 1 = true ∧ tk 5 1 = 2147483648 := by decide
theorem st45 (st : Int) (h : st = 4 ∨ st = 5) : (bits .and .i64 st 4 == 0) = false := by rcases h with rfl | rfl <;> decide
/-- What the law needs of the machine it has laid. -/
def Laid (W : World) (bm pm pb : Nat) (st tm cp ie : Int) : Prop := MP W bm pm pb 0 st tm cp 0 ie ∧ (∀ k, k < 16 → W.cell? ⟨bm, k, none⟩ = some (.int .i64 0)) ∧ (∀ k, k < 11 → W.cell? ⟨bm, 17 + k, none⟩ = some (.int .i64 (fcL st tm cp ie k))) ∧ W.cell? ⟨bm, 30, none⟩ = some (.slice none 0 0)
theorem laid_of {W : World} {bm pm pb : Nat} {st tm cp ie : Int} {g : Nat → Value} (hB : Blk W bm 38 39 g) (h0 : ∀ k, k < 17 → g k = .int .i64 0) (hC : ∀ k, k < 11 → g (17 + k) = .int .i64 (fcL st tm cp ie k)) (h28 : g 28 = .pointer (some ⟨pm, 0, none⟩)) (h29 : g 29 = .slice none 0 0) (h34 : g 34 = .bool false) (h35 : g 35 = .bool false) (hx : g 30 = .slice none 0 0 ∧ g 31 = .pointer none ∧ g 32 = .int .i64 0 ∧ g 33 = .pointer none) (hm : Mem66 W pm pb) (n1 : pm ≠ bm) (n2 : pb ≠ bm) : Laid W bm pm pb st tm cp ie :=
  ⟨⟨g, hB, ⟨h0 0 (by omega), h0 16 (by omega), hC 0 (by omega), hC 1 (by omega), hC 6 (by omega), hC 7 (by omega), hC 8 (by omega), hC 9 (by omega), hC 10 (by omega), h28, h29, hx.2.1, hx.2.2.1, hx.2.2.2, h34, h35⟩, hm, n1, n2⟩,
   fun k hk => by rw [hB.cell (by omega), h0 k (by omega)], fun k hk => by rw [hB.cell (by omega), hC k hk], by rw [hB.cell (by omega), hx.1]⟩
theorem lay4 {w : World} {bm pm pb : Nat} {g : Nat → Value} (tm cp ie : Int) (hB : Blk w bm 38 39 g) (h0 : ∀ k, k < 17 → g k = .int .i64 0) (h17 : g 17 = .int .i64 4) (h18 : ∀ k, 18 ≤ k → k < 28 → g k = .int .i64 0) (h28 : g 28 = .pointer (some ⟨pm, 0, none⟩)) (h29 : g 29 = .slice none 0 0) (h34 : g 34 = .bool false) (h35 : g 35 = .bool false) (hx : g 30 = .slice none 0 0 ∧ g 31 = .pointer none ∧ g 32 = .int .i64 0 ∧ g 33 = .pointer none) (hm : Mem66 w pm pb) (n1 : pm ≠ bm) (n2 : pb ≠ bm) :
    Laid ((((w.setCell ⟨bm, 24, none⟩ (.int .i64 tm)).setCell ⟨bm, 25, none⟩ (.int .i64 cp)).setCell ⟨bm, 27, none⟩ (.int .i64 ie)).setCell ⟨bm, 18, none⟩ (.int .i64 64)) bm pm pb 4 tm cp ie := by
  refine laid_of ((((hB.put 24 _).put 25 _).put 27 _).put 18 _) (fun k hk => ?_) (fun k hk => ?_) h28 h29 h34 h35 hx (mem_set (mem_set (mem_set (mem_set hm n1 n2 _ _) n1 n2 _ _) n1 n2 _ _) n1 n2 _ _) n1 n2
  · show (if k = 18 then _ else if k = 27 then _ else if k = 25 then _ else if k = 24 then _ else g k) = _
    rw [if_neg (by omega), if_neg (by omega), if_neg (by omega), if_neg (by omega), h0 k hk]
  · match k, hk with
    | 0, _ => exact h17
    | 1, _ => rfl
    | 2, _ => exact h18 19 (by omega) (by omega)
    | 3, _ => exact h18 20 (by omega) (by omega)
    | 4, _ => exact h18 21 (by omega) (by omega)
    | 5, _ => exact h18 22 (by omega) (by omega)
    | 6, _ => exact h18 23 (by omega) (by omega)
    | 7, _ => rfl
    | 8, _ => rfl
    | 9, _ => exact h18 26 (by omega) (by omega)
    | 10, _ => rfl
theorem lay5 {w : World} {bm pm pb : Nat} {g : Nat → Value} (tm cp ie : Int) (hB : Blk w bm 38 39 g) (h0 : ∀ k, k < 17 → g k = .int .i64 0) (h18 : ∀ k, 18 ≤ k → k < 28 → g k = .int .i64 0) (h28 : g 28 = .pointer (some ⟨pm, 0, none⟩)) (h29 : g 29 = .slice none 0 0) (h34 : g 34 = .bool false) (h35 : g 35 = .bool false) (hx : g 30 = .slice none 0 0 ∧ g 31 = .pointer none ∧ g 32 = .int .i64 0 ∧ g 33 = .pointer none) (hm : Mem66 w pm pb) (n1 : pm ≠ bm) (n2 : pb ≠ bm) :
    Laid (((((w.setCell ⟨bm, 24, none⟩ (.int .i64 tm)).setCell ⟨bm, 25, none⟩ (.int .i64 cp)).setCell ⟨bm, 27, none⟩ (.int .i64 ie)).setCell ⟨bm, 18, none⟩ (.int .i64 64)).setCell ⟨bm, 17, none⟩ (.int .i64 5)) bm pm pb 5 tm cp ie := by
  refine laid_of (((((hB.put 24 _).put 25 _).put 27 _).put 18 _).put 17 _) (fun k hk => ?_) (fun k hk => ?_) h28 h29 h34 h35 hx (mem_set (mem_set (mem_set (mem_set (mem_set hm n1 n2 _ _) n1 n2 _ _) n1 n2 _ _) n1 n2 _ _) n1 n2 _ _) n1 n2
  · show (if k = 17 then _ else if k = 18 then _ else if k = 27 then _ else if k = 25 then _ else if k = 24 then _ else g k) = _
    rw [if_neg (by omega), if_neg (by omega), if_neg (by omega), if_neg (by omega), if_neg (by omega), h0 k hk]
  · match k, hk with
    | 0, _ => rfl
    | 1, _ => rfl
    | 2, _ => exact h18 19 (by omega) (by omega)
    | 3, _ => exact h18 20 (by omega) (by omega)
    | 4, _ => exact h18 21 (by omega) (by omega)
    | 5, _ => exact h18 22 (by omega) (by omega)
    | 6, _ => exact h18 23 (by omega) (by omega)
    | 7, _ => rfl
    | 8, _ => rfl
    | 9, _ => exact h18 26 (by omega) (by omega)
    | 10, _ => rfl
theorem set4_below {B : Nat} {w : World} {bm : Nat} (hB : B ≤ bm) (a b c d : Value) : Below B w ((((w.setCell ⟨bm, 24, none⟩ a).setCell ⟨bm, 25, none⟩ b).setCell ⟨bm, 27, none⟩ c).setCell ⟨bm, 18, none⟩ d) :=
  ((((Below.refl B w).setCell (p := ⟨bm, 24, none⟩) hB a).setCell (p := ⟨bm, 25, none⟩) hB b).setCell (p := ⟨bm, 27, none⟩) hB c).setCell (p := ⟨bm, 18, none⟩) hB d
end Go.Proofs.Ytdnmjhkgibaadaa
