/- States of a machine in memory of the call's own: what is read, what a store leaves. No program in sight. -/
import Derived.Test.YtdnmjhkgibaadaaRow
import Derived.Laws.BytesArg
namespace Go.Proofs.Ytdnmjhkgibaadaa
open Go.RowKit

theorem Own.keep {w w' : World} {c c' : Nat → Nat} {d d' B : Nat} {v : Value} {xs : List Value} (h : Own w c d B v xs) (hs : w.heap.size ≤ w'.heap.size) (hk : ∀ k, B ≤ k → k < w.heap.size → c k = d → c' k = d' ∧ w'.heap[k]? = w.heap[k]?) : Own w' c' d' B v xs := by
  rcases h with h | ⟨b, off, cap, hv, hc, hB, hb, hl, hm, h1, h2, h3⟩
  · exact .inl h
  · obtain ⟨k1, k2⟩ := hk b hB hb hc
    refine .inr ⟨b, off, cap, hv, k1, hB, Nat.lt_of_lt_of_le hb hs, hl, hm, fun j u hj => ?_, fun j hj => ?_, fun j hj => ?_⟩
    · rw [World.cell?_of_block (w := w) (a := ⟨b, off + j, none⟩) k2]; exact h1 j u hj
    · rw [World.cell?_of_block (w := w) (a := ⟨b, off + j, none⟩) k2]; exact h2 j hj
    · rw [World.frozen?_of_block (w := w) (a := ⟨b, off + j, none⟩) k2]; exact h3 j hj
theorem Own.below {w w' : World} {c : Nat → Nat} {d B : Nat} {v : Value} {xs : List Value} (h : Own w c d B v xs) (hb : Below w.heap.size w w') : Own w' c d B v xs :=
  h.keep hb.size fun k _ hk hc => ⟨hc, hb.block k hk⟩
/-- A store to another block than those of its colour. -/
theorem Own.far {w : World} {c : Nat → Nat} {d B : Nat} {v : Value} {xs : List Value} (h : Own w c d B v xs) {p : Addr} (hp : p.block < B ∨ c p.block ≠ d) (u : Value) : Own (w.setCell p u) c d B v xs :=
  h.keep (by simp) fun k hB _ hc => ⟨hc, Below.heap_setCell w p u k (by
    rintro rfl
    rcases hp with hp | hp
    · omega
    · exact hp hc)⟩
theorem Own.nilcap {w : World} {c : Nat → Nat} {d B : Nat} {A : Option Addr} {n cap : Nat} {xs : List Value} (h : Own w c d B (.slice A n cap) xs) (hA : A = none) : cap = 0 := by
  subst hA
  rcases h with ⟨h, _⟩ | ⟨_, _, _, h, _⟩
  · injection h
  · injection h with h; cases h
theorem Own.lens {w : World} {c : Nat → Nat} {d B : Nat} {A : Option Addr} {n cap : Nat} {xs : List Value} (h : Own w c d B (.slice A n cap) xs) : xs.length = n ∧ n ≤ cap := by
  rcases h with ⟨h, rfl⟩ | ⟨_, _, _, h, _, _, _, hl, _⟩
  · injection h with h1 h2 h3; subst h2; exact ⟨rfl, by omega⟩
  · injection h with h1 h2 h3; subst h2 h3; exact ⟨rfl, hl⟩

/-- Numbers of the call's own: where they lie. -/
theorem own_at {w : World} {c : Nat → Nat} {d B : Nat} {A : Option Addr} {M cc : Nat} {F : Nat → Int} (h : Own w c d B (.slice A M cc) (csL F M)) (hM : 0 < M) :
    ∃ b off, A = some ⟨b, off, none⟩ ∧ c b = d ∧ B ≤ b ∧ b < w.heap.size ∧ (∀ k, k < M → w.cell? ⟨b, off + k, none⟩ = some (.int .i64 (F k))) ∧ ∀ k, k < M → w.frozen? ⟨b, off + k, none⟩ = false := by
  rcases h with ⟨h, _⟩ | ⟨b, off, cap, hv, hc, hB, hb, hl, hm, h1, h2, h3⟩
  · injection h with h1 h2 h3; omega
  · injection hv with e1 e2 e3
    rw [csL_len] at hl
    exact ⟨b, off, e1, hc, hB, hb, fun k hk => h1 k _ (csL_get F M k hk), fun k hk => h3 k (by omega)⟩
theorem own_ints {w : World} {c : Nat → Nat} {d B : Nat} {A : Option Addr} {M cc : Nat} {F : Nat → Int} (h : Own w c d B (.slice A M cc) (csL F M)) : IntsAt w A M F := fun k hk => by
  obtain ⟨b, off, e, _, _, _, h1, _⟩ := own_at h (by omega)
  exact ⟨b, off, e, h1 k hk⟩
theorem own_put {w : World} {c : Nat → Nat} {d B : Nat} {b off M cc : Nat} {F : Nat → Int} (h : Own w c d B (.slice (some ⟨b, off, none⟩) M cc) (csL F M)) (k : Nat) (hk : k < M) (x : Int) :
    Own (w.setCell ⟨b, off + k, none⟩ (.int .i64 x)) c d B (.slice (some ⟨b, off, none⟩) M cc) (csL (fun j => if j = k then x else F j) M) := by
  rcases h with ⟨h, _⟩ | ⟨b', off', cap, hv, hc, hB, hb, hl, hm, h1, h2, h3⟩
  · injection h with h1; cases h1
  · injection hv with e1 e2 e3
    injection e1 with e1
    injection e1 with e1 e2'
    subst e1 e2' e3
    rw [csL_len] at hl
    refine .inr ⟨b, off, cc, by rw [csL_len], hc, hB, by simpa using hb, by rw [csL_len]; exact hl, hm, fun j u hj => ?_, fun j hj => ?_, fun j hj => ?_⟩
    · have hjM : j < M := by
        rcases Nat.lt_or_ge j M with h | h
        · exact h
        · rw [List.getElem?_eq_none (by rw [csL_len]; exact h)] at hj; cases hj
      rw [csL_get _ M j hjM] at hj
      injection hj with hj
      subst hj
      by_cases e : j = k
      · subst e
        rw [if_pos rfl]
        exact World.cell?_setCell_same _ _ _ (h1 j _ (csL_get F M j hjM))
      · rw [if_neg e, World.cell?_setCell_other _ _ _ _ (by intro e'; injection e'; omega)]
        exact h1 j _ (csL_get F M j hjM)
    · by_cases e : j = k
      · subst e
        rw [World.cell?_setCell_same _ _ _ (h1 j _ (csL_get F M j (by omega)))]; rfl
      · rw [World.cell?_setCell_other _ _ _ _ (by intro e'; injection e'; omega)]
        exact h2 j hj
    · rw [World.frozen?_setCell]; exact h3 j hj
theorem row_own {w : World} {c : Nat → Nat} {d B g t M : Nat} {F : Nat → Int} (h : RowIs w g t M F) (hB : B ≤ g) (hc : c g = d) (hM : M ≤ 100000) : Own w c d B (.slice (some ⟨g, 0, none⟩) M M) (csL F M) := by
  refine .inr ⟨g, 0, M, by rw [csL_len], hc, hB, h.lt, by rw [csL_len]; exact Nat.le_refl _, by unfold maxLen; omega, fun j u hj => ?_, fun j hj => ?_, fun j hj => ?_⟩
  · have hjM : j < M := by
      rcases Nat.lt_or_ge j M with h | h
      · exact h
      · rw [List.getElem?_eq_none (by rw [csL_len]; exact h)] at hj; cases hj
    rw [csL_get _ M j hjM] at hj
    rw [← hj, Nat.zero_add]; exact h.cell hjM
  · rw [Nat.zero_add, h.cell hj]; rfl
  · exact h.frozen _
theorem csL_congr {f g : Nat → Int} {n : Nat} (h : ∀ k, k < n → f k = g k) : csL f n = csL g n := by
  apply List.ext_getElem?
  intro j
  by_cases hj : j < n
  · rw [csL_get _ _ _ hj, csL_get _ _ _ hj, h j hj]
  · rw [List.getElem?_eq_none (by rw [csL_len]; omega), List.getElem?_eq_none (by rw [csL_len]; omega)]
theorem ints_src' {w : World} {A : Option Addr} {n : Nat} {f : Nat → Int} (h : IntsAt w A n f) : Src w A n (csL f n) := by
  refine ⟨csL_len f n, csL_one f n, fun hn e => ?_, fun ad e j u hj => ?_⟩
  · obtain ⟨b, off, e', _⟩ := h 0 hn
    rw [e] at e'; cases e'
  · have hjn : 0 < n := by
      rcases Nat.eq_zero_or_pos n with h | h
      · subst h; cases hj
      · exact h
    obtain ⟨ad', e', hc⟩ := ints_src h (by rw [csL_len]; exact hjn)
    rw [e] at e'
    injection e' with e'
    subst e'
    exact hc j u hj
theorem src_ints {w : World} {A : Option Addr} {n : Nat} {f : Nat → Int} (h : Src w A n (csL f n)) : IntsAt w A n f := fun k hk => by
  rcases A with _ | ⟨b, off, s⟩
  · exact absurd rfl (h.2.2.1 (by omega))
  · have hs : s = none := by simpa [Addr.add] using World.cell?_spot (h.2.2.2 _ rfl 0 _ (csL_get f n 0 (by omega)))
    subst hs
    have hc := h.2.2.2 _ rfl k _ (csL_get f n k hk)
    exact ⟨b, off, rfl, by rw [Addr.add_lit] at hc; exact hc⟩

/-- Bytes as values. -/
def bys (l : List Int) : List Value := l.map (Value.int .u8)
theorem bys_len (l : List Int) : (bys l).length = l.length := by simp [bys]
theorem bys_one (l : List Int) : ∀ u ∈ bys l, u.oneCell' = true := by
  intro u hu
  obtain ⟨x, _, rfl⟩ := List.mem_map.1 hu
  rfl
theorem src_conv {P : Program} {w : World} {A : Option Addr} {l : List Int} (h : Src w A l.length (bys l)) (cap : Nat) (src e : TypeId) (hs : P.underlying src = some (.slice e)) (he : P.underlying e = some (.int .u8)) (dst : TypeId) (hd : P.underlying dst = some .string) :
    (convert src dst (.slice A l.length cap)).run P w = .ok (.string (strOfNums l)) w := by
  rcases A with _ | ⟨b, off, s⟩
  · have h0 : l.length = 0 := by
      rcases Nat.eq_zero_or_pos l.length with h' | h'
      · exact h'
      · exact absurd rfl (h.2.2.1 h')
    obtain rfl := List.eq_nil_of_length_eq_zero h0
    exact run_convert_bytes_nil w src e hs he _ cap dst hd
  · rcases l with _ | ⟨x, l⟩
    · rw [run_convert_bytes_string w src dst e _ _ cap hs he hd]
      simp [Conv.bytesToString, loadCells]
      rfl
    · have hspot : s = none := by simpa [Addr.add] using World.cell?_spot (h.2.2.2 _ rfl 0 (.int .u8 x) rfl)
      subst hspot
      have hc := h.2.2.2 _ rfl
      refine run_convert_bytes_arg w src e hs he b off _ cap (x :: l) rfl (fun i hi => ?_) dst hd
      have := hc i (.int .u8 ((x :: l).getD i 0)) (by unfold bys; rw [List.getElem?_map, List.getElem?_eq_getElem hi]; simp [List.getD, List.getElem?_eq_getElem hi])
      rw [Addr.add_lit] at this; exact this

/-- What a call leaves that hands back a state in memory of its own. -/
def StP (w : World) (nr M no : Nat) (pc : Int) (h st : Bool) (fr F : Nat → Int) (bo : List Int) (e : Ending) (w' : World) : Prop :=
  ∃ c ar cr ac cc ao co, e = .returned (.agg #[.slice ar nr cr, .int .i64 pc, .slice ac M cc, .bool h, .bool st, .slice ao no co]) ∧ Own w' c 1 w.heap.size (.slice ar nr cr) (csL fr nr) ∧ Own w' c 2 w.heap.size (.slice ac M cc) (csL F M) ∧ Own w' c 3 w.heap.size (.slice ao no co) (bys bo) ∧ Below w.heap.size w w'
end Go.Proofs.Ytdnmjhkgibaadaa
