/- Slices that a call owns, wherever they begin in their block, with a colour for each block (so that two of them are known to be apart), and append onto them. No program in sight; no conditions but those that each theorem states. -/
import Derived.Maps.AppendAt
import Derived.Deep.AppendLies
import Derived.ArgAppend
import Derived.Deep.Upon
import Derived.Below
import Derived.Deep.Draws
import Derived.Deep.MidRow
namespace Go.Proofs.Ytdnmjhkgibaadaa
open Go.RowKit

/-- From world w (blocks coloured by c) to w' (by c'): only blocks from B on whose colour is in S have turned; new blocks may have come. -/
structure Stp (B : Nat) (S : Nat → Prop) (w : World) (c : Nat → Nat) (w' : World) (c' : Nat → Nat) : Prop where
  os : w'.os = w.os
  tape : w'.tape = w.tape
  output : w'.output = w.output
  size : w.heap.size ≤ w'.heap.size
  col : ∀ k, k < w.heap.size → c' k = c k
  block : ∀ k, k < w.heap.size → (k < B ∨ ¬ S (c k)) → w'.heap[k]? = w.heap[k]?

section
variable {B : Nat} {S T : Nat → Prop} {w w1 w2 : World} {c c1 c2 : Nat → Nat}
theorem Stp.refl (B : Nat) (S : Nat → Prop) (w : World) (c : Nat → Nat) : Stp B S w c w c := ⟨rfl, rfl, rfl, Nat.le_refl _, fun _ _ => rfl, fun _ _ _ => rfl⟩
theorem Stp.trans (h : Stp B S w c w1 c1) (k : Stp B S w1 c1 w2 c2) : Stp B S w c w2 c2 :=
  ⟨k.os.trans h.os, k.tape.trans h.tape, k.output.trans h.output, Nat.le_trans h.size k.size,
   fun j hj => (k.col j (Nat.lt_of_lt_of_le hj h.size)).trans (h.col j hj),
   fun j hj hs => (k.block j (Nat.lt_of_lt_of_le hj h.size) (by rw [h.col j hj]; exact hs)).trans (h.block j hj hs)⟩
theorem Stp.mono (h : Stp B S w c w1 c1) (hST : ∀ d, S d → T d) : Stp B T w c w1 c1 :=
  ⟨h.os, h.tape, h.output, h.size, h.col, fun j hj hs => h.block j hj (hs.imp id fun hn hS => hn (hST _ hS))⟩
theorem Stp.drew (h : Stp B S w c w1 c1) : Stp B S w c w1.drew c1 := ⟨h.os, h.tape, h.output, h.size, h.col, h.block⟩
theorem Stp.drewN (h : Stp B S w c w1 c1) (n : Nat) : Stp B S w c (w1.drewN n) c1 := ⟨h.os, h.tape, h.output, h.size, h.col, h.block⟩
theorem Stp.alloc (h : Stp B S w c w1 c1) (o : Obj) : Stp B S w c (w1.alloc o) c1 :=
  h.trans ⟨rfl, rfl, rfl, by simp, fun _ _ => rfl, fun k hk _ => Below.heap_alloc w1 o k hk⟩
theorem Stp.set (h : Stp B S w c w1 c1) {p : Addr} (hB : B ≤ p.block) (hS : S (c1 p.block)) (u : Value) : Stp B S w c (w1.setCell p u) c1 :=
  h.trans ⟨rfl, rfl, rfl, by simp, fun _ _ => rfl, fun k _ hs => Below.heap_setCell w1 p u k (by
    rintro rfl
    rcases hs with hs | hs
    · omega
    · exact hs hS)⟩
/-- A new block may be given a colour. -/
theorem Stp.paint (h : Stp B S w c w1 c1) (hw : ∀ k, k < w1.heap.size → c2 k = c1 k) : Stp B S w c w1 c2 :=
  ⟨h.os, h.tape, h.output, h.size, fun k hk => (hw k (Nat.lt_of_lt_of_le hk h.size)).trans (h.col k hk), h.block⟩
theorem Stp.below (h : Stp B S w c w1 c1) (hB : B ≤ w.heap.size) : Below B w w1 :=
  ⟨h.os, h.tape, h.output, h.size, fun k hk => h.block k (Nat.lt_of_lt_of_le hk hB) (.inl hk)⟩
theorem Stp.cell (h : Stp B S w c w1 c1) {p : Addr} (hp : p.block < w.heap.size) (hc : ¬ S (c p.block)) : w1.cell? p = w.cell? p := World.cell?_of_block (w := w) (h.block p.block hp (.inr hc))
theorem Stp.frozen (h : Stp B S w c w1 c1) {p : Addr} (hp : p.block < w.heap.size) (hc : ¬ S (c p.block)) : w1.frozen? p = w.frozen? p := World.frozen?_of_block (w := w) (h.block p.block hp (.inr hc))
end

/-- The slice v holds xs, in a block of colour d from B on of which it owns all up to its capacity; or it is nil. -/
def Own (w : World) (c : Nat → Nat) (d B : Nat) (v : Value) (xs : List Value) : Prop :=
  (v = .slice none 0 0 ∧ xs = []) ∨
  ∃ b off cap, v = .slice (some ⟨b, off, none⟩) xs.length cap ∧ c b = d ∧ B ≤ b ∧ b < w.heap.size ∧ xs.length ≤ cap ∧ cap ≤ maxLen ∧
    (∀ j u, xs[j]? = some u → w.cell? ⟨b, off + j, none⟩ = some u) ∧ (∀ j, j < cap → (w.cell? ⟨b, off + j, none⟩).isSome = true) ∧ (∀ j, j < cap → w.frozen? ⟨b, off + j, none⟩ = false)

section
variable {B d : Nat} {S : Nat → Prop} {w w1 : World} {c c1 : Nat → Nat} {v : Value} {xs : List Value}
theorem Own.nil (w : World) (c : Nat → Nat) (d B : Nat) : Own w c d B (.slice none 0 0) [] := .inl ⟨rfl, rfl⟩
theorem Own.step (h : Own w c d B v xs) (hs : Stp B S w c w1 c1) (hd : ¬ S d) : Own w1 c1 d B v xs := by
  rcases h with h | ⟨b, off, cap, hv, hc, hB, hb, hl, hm, h1, h2, h3⟩
  · exact .inl h
  · refine .inr ⟨b, off, cap, hv, (hs.col b hb).trans hc, hB, Nat.lt_of_lt_of_le hb hs.size, hl, hm, fun j u hj => ?_, fun j hj => ?_, fun j hj => ?_⟩
    · rw [hs.cell (p := ⟨b, off + j, none⟩) hb (by rw [hc]; exact hd)]; exact h1 j u hj
    · rw [hs.cell (p := ⟨b, off + j, none⟩) hb (by rw [hc]; exact hd)]; exact h2 j hj
    · rw [hs.frozen (p := ⟨b, off + j, none⟩) hb (by rw [hc]; exact hd)]; exact h3 j hj
theorem Own.alloc (h : Own w c d B v xs) (o : Obj) : Own (w.alloc o) c d B v xs :=
  h.step ((Stp.refl B (fun _ => False) w c).alloc o) (fun h => h)
theorem Own.set (h : Own w c d B v xs) {p : Addr} (hB : B ≤ p.block) (hc : c p.block ≠ d) (u : Value) : Own (w.setCell p u) c d B v xs :=
  h.step ((Stp.refl B (fun x => x = c p.block) w c).set hB rfl u) (fun h => hc h.symm)
theorem Own.form (h : Own w c d B v xs) : ∃ a cap, v = .slice a xs.length cap ∧ xs.length ≤ cap ∧ cap ≤ maxLen ∧ (0 < xs.length → ∃ b off, a = some ⟨b, off, none⟩ ∧ b < w.heap.size) := by
  rcases h with ⟨rfl, rfl⟩ | ⟨b, off, cap, rfl, hc, hB, hb, hl, hm, h1, h2, h3⟩
  · exact ⟨none, 0, rfl, Nat.le_refl _, by simp [maxLen], fun h => absurd h (by simp)⟩
  · exact ⟨_, cap, rfl, hl, hm, fun _ => ⟨b, off, rfl, hb⟩⟩
end

theorem Own.recolour {B d d' : Nat} {w : World} {c c' : Nat → Nat} {v : Value} {xs : List Value} (h : Own w c d B v xs) (hc : ∀ k, c k = d → k < w.heap.size → c' k = d') : Own w c' d' B v xs := by
  rcases h with h | ⟨b, off, cap, hv, h2, hB, hb, hr⟩
  · exact .inl h
  · exact .inr ⟨b, off, cap, hv, hc b h2 hb, hB, hb, hr⟩
theorem Own.base {B B' d : Nat} {w : World} {c : Nat → Nat} {v : Value} {xs : List Value} (h : Own w c d B v xs) (hB : B' ≤ B) : Own w c d B' v xs := by
  rcases h with h | ⟨b, off, cap, hv, h2, hb, hr⟩
  · exact .inl h
  · exact .inr ⟨b, off, cap, hv, h2, Nat.le_trans hB hb, hr⟩
theorem Own.empty (w : World) (c : Nat → Nat) (d B t : Nat) (hB : B ≤ w.heap.size) (hc : c w.heap.size = d) : Own (w.alloc (.cells #[] t)) c d B (.slice (some ⟨w.heap.size, 0, none⟩) 0 0) [] :=
  .inr ⟨w.heap.size, 0, 0, rfl, hc, hB, by simp, by simp, by simp [maxLen], fun j u hj => by simp at hj, fun j hj => by omega, fun j hj => by omega⟩
theorem own_of_row {w : World} {c : Nat → Nat} {d B base : Nat} {e : TypeId} {v : Value} {n : Nat} {xs : List Value} (h : w.ownsRow base e 1 v n xs) (hB : B ≤ base) (hc : ∀ k, base ≤ k → k < w.heap.size → c k = d) : Own w c d B v xs := by
  obtain ⟨hl, h⟩ := h
  rcases h with ⟨rfl, rfl⟩ | ⟨g, cap, cur, rfl, hg, hh, hn, hm, hs, ht⟩
  · exact .inl ⟨rfl, List.eq_nil_of_length_eq_zero (by simpa using hl)⟩
  · have hlt : g < w.heap.size := by
      rcases Nat.lt_or_ge g w.heap.size with h | h
      · exact h
      · rw [Array.getElem?_eq_none h] at hh; cases hh
    have hlen : xs.length = n := by omega
    have hcell : ∀ j, w.cell? ⟨g, 0 + j, none⟩ = cur[j]? := fun j => by simp [World.cell?, hh]
    refine .inr ⟨g, 0, cap, by rw [hlen], hc g hg hlt, by omega, hlt, by omega, hm, fun j u hj => ?_, fun j hj => ?_, fun j _ => ?_⟩
    · rw [hcell, ← Array.getElem?_toList]
      rw [← ht] at hj
      rw [List.getElem?_take] at hj
      split at hj
      · exact hj
      · cases hj
    · rw [hcell, Array.getElem?_eq_getElem (by omega)]; rfl
    · simp [World.frozen?, hh]

theorem size_setCells (b : Nat) : ∀ (vs : List Value) (o : Nat) (w : World), (w.setCells b o vs).heap.size = w.heap.size
  | [], _, _ => rfl
  | v :: r, o, w => by
    show ((w.setCell ⟨b, o, none⟩ v).setCells b (o + 1) r).heap.size = _
    rw [size_setCells b r]; simp
theorem tape_setCells (b : Nat) : ∀ (vs : List Value) (o : Nat) (w : World), (w.setCells b o vs).tape = w.tape
  | [], _, _ => rfl
  | v :: r, o, w => by
    show ((w.setCell ⟨b, o, none⟩ v).setCells b (o + 1) r).tape = _
    rw [tape_setCells b r]; rfl

/-- What is appended: nil, or cells that lie there. -/
def Src (w : World) (A : Option Addr) (m : Nat) (news : List Value) : Prop :=
  news.length = m ∧ (∀ u ∈ news, u.oneCell' = true) ∧ (0 < m → A ≠ none) ∧ ∀ ad, A = some ad → ∀ j u, news[j]? = some u → w.cell? (ad.add j) = some u

theorem Src.keep {w w1 : World} {A : Option Addr} {m : Nat} {news : List Value} (h : Src w A m news) (hk : ∀ a u, w.cell? a = some u → w1.cell? a = some u) : Src w1 A m news :=
  ⟨h.1, h.2.1, h.2.2.1, fun ad e j u hj => hk _ _ (h.2.2.2 ad e j u hj)⟩
theorem Src.alloc {w : World} {A : Option Addr} {m : Nat} {news : List Value} (h : Src w A m news) (o : Obj) : Src (w.alloc o) A m news :=
  h.keep fun a _ hu => (World.cell?_alloc_lt _ _ _ (World.block_lt_of_cell? w a hu)).trans hu
theorem Src.below {w w1 : World} {A : Option Addr} {m : Nat} {news : List Value} (h : Src w A m news) (hb : Below w.heap.size w w1) : Src w1 A m news :=
  h.keep fun a _ hu => (hb.cell (World.block_lt_of_cell? w a hu)).trans hu
theorem own_src {w : World} {c : Nat → Nat} {d B : Nat} {A : Option Addr} {n cap : Nat} {xs : List Value} (h : Own w c d B (.slice A n cap) xs) (h1 : ∀ u ∈ xs, u.oneCell' = true) : Src w A n xs := by
  rcases h with ⟨hv, rfl⟩ | ⟨b, off, cap', hv, _, _, _, _, _, hcell, _, _⟩
  · injection hv with e1 e2 e3
    subst e1 e2
    exact ⟨rfl, h1, fun h => absurd h (by simp), fun ad h => by cases h⟩
  · injection hv with e1 e2 e3
    subst e1 e2
    refine ⟨rfl, h1, (fun _ h => by cases h), fun ad h j u hj => ?_⟩
    injection h with h
    subst h
    rw [Addr.add_lit]; exact hcell j u hj

/-- What a call leaves that hands back a new slice of n values xs, in a block of its own of colour d. -/
def NewP (w : World) (c : Nat → Nat) (d B n : Nat) (xs : List Value) (e : Ending) (w' : World) : Prop :=
  ∃ a' cap' c', e = .returned (.slice a' n cap') ∧ Own w' c' d B (.slice a' n cap') xs ∧ Stp B (fun _ => False) w c w' c'

section
variable {P : Program} (w : World)
theorem run_append_mine (t ty e : TypeId) (i : TypeInfo) (z : Value) (bytes : Nat) (ht : P.underlying t = some (.slice e)) (hi : P.info? e = some i) (hz : i.zero = some z)
    (hsize : i.size = 1) (hby : i.bytes = bytes) (hzs : z.cells.size = 1)
    (c : Nat → Nat) (d B : Nat) (v : Value) (xs : List Value) (hown : Own w c d B v xs) (hB : B ≤ w.heap.size)
    (A : Option Addr) (m cc : Nat) (news : List Value) (hsrc : Src w A m news) (h63 : xs.length + m ≤ maxLen) (hbytes : (xs.length + m) * bytes ≤ 140737488355328) :
    ∃ v' w' c', (Builtin.append_ #[t, t] ty #[v, .slice A m cc]).run P w = .ok v' w' ∧ Own w' c' d B v' (xs ++ news) ∧ Stp B (fun x => x = d) w c w' c' := by
  obtain ⟨hl, h1, hne, hcell⟩ := hsrc
  have paint : ∀ {w' : World}, w.grownBy w' none → Stp B (fun x => x = d) w c w' (fun k => if k < w.heap.size then c k else d) := fun hg =>
    ⟨hg.os, hg.tape, hg.output, hg.size, fun k hk => if_pos hk, fun k hk _ => hg.block k hk (by simp)⟩
  have new : ∀ k, w.heap.size ≤ k → (fun k => if k < w.heap.size then c k else d) k = d := fun k hk => if_neg (by omega)
  rcases A with _ | ad
  · have hm : m = 0 := by
      rcases Nat.eq_zero_or_pos m with h | h
      · exact h
      · exact absurd rfl (hne h)
    subst hm
    obtain rfl : news = [] := List.eq_nil_of_length_eq_zero hl
    refine ⟨v, w, c, ?_, by simpa using hown, Stp.refl _ _ _ _⟩
    rcases hown with ⟨rfl, rfl⟩ | ⟨b, off, cap, rfl, _, _, _, hn, _⟩
    · simp [Builtin.append_, run_underlying ht, sizeOf, typeInfo, hi, Builtin.lenOf, Builtin.firstCells]
    · simp [Builtin.append_, run_underlying ht, sizeOf, typeInfo, hi, Builtin.lenOf, Builtin.firstCells, hn, storeCells]
  · have hnews := hcell ad rfl
    rcases hown with ⟨rfl, rfl⟩ | ⟨b, off, cap, rfl, hc, hBb, hb, hn, hm, k1, k2, k3⟩
    · obtain ⟨v', w', hr, h2, h3, _, _⟩ := run_append_own_at (P := P) w w.heap.size t ty e i z 1 bytes ht hi hz hsize hby hzs (by decide) (.slice none 0 0) 0 [] ⟨rfl, .inl ⟨rfl, rfl⟩⟩ ad m cc news (by omega) hnews h1 (by simpa using h63) (by simpa using hbytes) (Nat.le_refl _)
      exact ⟨v', w', _, hr, own_of_row h2 hB (fun k hk _ => new k hk), paint h3⟩
    · by_cases hroom : xs.length + m ≤ cap
      · have hr := run_append_room_cells (P := P) w t ty e i ht hi b off xs.length cap ad m cc news (by rw [hsize]; omega) hnews h1 hroom
          (fun j hj => by rw [hsize, Nat.mul_one, Nat.add_assoc]; exact k2 _ (by omega)) (fun j hj => by rw [hsize, Nat.mul_one, Nat.add_assoc]; exact k3 _ (by omega))
        rw [hsize, Nat.mul_one] at hr
        have hsome : ∀ j, j < news.length → (w.cell? ⟨b, off + xs.length + j, none⟩).isSome = true := fun j hj => by rw [Nat.add_assoc]; exact k2 _ (by omega)
        have hsz : (w.setCells b (off + xs.length) news).heap.size = w.heap.size := size_setCells b news _ w
        refine ⟨_, _, c, hr, .inr ⟨b, off, cap, by rw [List.length_append, hl], hc, hBb, by omega, by rw [List.length_append]; omega, hm, fun j u hj => ?_, fun j hj => ?_, fun j hj => ?_⟩, ?_⟩
        · by_cases hjx : j < xs.length
          · rw [List.getElem?_append_left hjx] at hj
            rw [World.cell?_setCells_out b news _ w _ (fun _ _ => .inl (by show off + j < _; omega))]
            exact k1 j u hj
          · rw [List.getElem?_append_right (by omega)] at hj
            have hlt : j - xs.length < news.length := by
              rcases Nat.lt_or_ge (j - xs.length) news.length with h | h
              · exact h
              · rw [List.getElem?_eq_none h] at hj; cases hj
            have := World.cell?_setCells_in b news (off + xs.length) w hsome (j - xs.length) hlt
            rw [show off + xs.length + (j - xs.length) = off + j by omega] at this
            rw [this]
            rw [List.getElem?_eq_getElem hlt] at hj
            exact hj
        · exact World.isSome_setCells b news _ w _ (k2 j hj)
        · rw [World.frozen?_setCells]; exact k3 j hj
        · refine ⟨World.os_setCells w b _ news, tape_setCells b news _ w, World.output_setCells w b _ news, by omega, fun _ _ => rfl, fun k hk hs => World.heap_setCells_other w b _ news hk ?_⟩
          rintro rfl
          rcases hs with hs | hs
          · omega
          · exact hs hc
      · obtain ⟨v', w', hr, h2, h3⟩ := run_append_arg_grows (P := P) w t ty e i z 1 bytes ht hi hz hsize hby hzs (by decide) ⟨b, off, none⟩ xs.length cap xs (by omega) (fun j u hj => by rw [Addr.add_lit]; exact k1 j u hj) ad m cc news (by omega) hnews (by omega) h63 hbytes
        exact ⟨v', w', _, hr, own_of_row h2 hB (fun k hk _ => new k hk), paint h3⟩

theorem run_append_mine' (t ty e : TypeId) (i : TypeInfo) (z : Value) (bytes : Nat) (ht : P.underlying t = some (.slice e)) (hi : P.info? e = some i) (hz : i.zero = some z)
    (hsize : i.size = 1) (hby : i.bytes = bytes) (hzs : z.cells.size = 1)
    (c : Nat → Nat) (d B : Nat) (v : Value) (xs : List Value) (n : Nat) (hn : xs.length = n) (hown : Own w c d B v xs) (hB : B ≤ w.heap.size)
    (A : Option Addr) (m cc : Nat) (news : List Value) (hsrc : Src w A m news) (h63 : n + m ≤ maxLen) (hbytes : (n + m) * bytes ≤ 140737488355328) :
    ∃ a' cap' w' c', (Builtin.append_ #[t, t] ty #[v, .slice A m cc]).run P w = .ok (.slice a' (n + m) cap') w' ∧ Own w' c' d B (.slice a' (n + m) cap') (xs ++ news) ∧ Stp B (fun x => x = d) w c w' c' := by
  subst hn
  obtain ⟨v', w', c', h1, h2, h3⟩ := run_append_mine (P := P) w t ty e i z bytes ht hi hz hsize hby hzs c d B v xs hown hB A m cc news hsrc h63 hbytes
  obtain ⟨a', cap', rfl, _⟩ := h2.form
  rw [List.length_append, hsrc.1] at h1 h2
  exact ⟨a', cap', w', c', h1, h2, h3⟩

theorem wp_append_mine {o : Oper} {a : Act} {K : Act → World → Prop} {Q : Exit → Act → World → Prop} (s x : Operand) (t : TypeId)
    (ho : o.op = .call { callee := .builtin .append, args := #[s, x], argTypes := #[t, t] })
    (e : TypeId) (i : TypeInfo) (z : Value) (bytes : Nat) (ht : P.underlying t = some (.slice e)) (hi : P.info? e = some i) (hz : i.zero = some z)
    (hsize : i.size = 1) (hby : i.bytes = bytes) (hzs : z.cells.size = 1)
    (c : Nat → Nat) (d B : Nat) (v : Value) (xs : List Value) (n : Nat) (hn : xs.length = n) (hs : a.eval s = v) (hown : Own w c d B v xs) (hB : B ≤ w.heap.size)
    (A : Option Addr) (m cc : Nat) (news : List Value) (hx : a.eval x = .slice A m cc) (hsrc : Src w A m news) (h63 : n + m ≤ maxLen) (hbytes : (n + m) * bytes ≤ 140737488355328)
    (h : ∀ a' cap' w' c', Own w' c' d B (.slice a' (n + m) cap') (xs ++ news) → Stp B (fun x => x = d) w c w' c' → K (a.put o.dst (.slice a' (n + m) cap')) w') : o.wp P a w K Q := by
  obtain ⟨a', cap', w', c', hr, h2, h3⟩ := run_append_mine' (P := P) w t o.type e i z bytes ht hi hz hsize hby hzs c d B v xs n hn hown hB A m cc news hsrc h63 hbytes
  unfold Oper.wp execOp
  simp only [ho, resolve, invoke, builtin, Sem.run_bind, Sem.run_pure, Result.andThen_ok, List.map_toArray, List.map_cons, List.map_nil, hs, hx, hr]
  exact h a' cap' w' c' h2 h3

theorem wpList_append_mine {ops : Array Oper} {rest : List Oper} {o : Oper} {a : Act} {Q : Exit → Act → World → Prop} (hgd : o.guard = none) (s x : Operand) (t : TypeId)
    (ho : o.op = .call { callee := .builtin .append, args := #[s, x], argTypes := #[t, t] })
    (e : TypeId) (i : TypeInfo) (z : Value) (bytes : Nat) (ht : P.underlying t = some (.slice e)) (hi : P.info? e = some i) (hz : i.zero = some z)
    (hsize : i.size = 1) (hby : i.bytes = bytes) (hzs : z.cells.size = 1)
    (c : Nat → Nat) (d B : Nat) (v : Value) (xs : List Value) (n : Nat) (hn : xs.length = n) (hs : a.eval s = v) (hown : Own w c d B v xs) (hB : B ≤ w.heap.size)
    (A : Option Addr) (m cc : Nat) (news : List Value) (hx : a.eval x = .slice A m cc) (hsrc : Src w A m news) (h63 : n + m ≤ maxLen) (hbytes : (n + m) * bytes ≤ 140737488355328)
    (h : ∀ a' cap' w' c', Own w' c' d B (.slice a' (n + m) cap') (xs ++ news) → Stp B (fun x => x = d) w c w' c' → wpList P ops Q rest (a.put o.dst (.slice a' (n + m) cap')) w') : wpList P ops Q (o :: rest) a w :=
  wpList_plain hgd fun _ hK => wp_append_mine w s x t ho e i z bytes ht hi hz hsize hby hzs c d B v xs n hn hs hown hB A m cc news hx hsrc h63 hbytes fun a' cap' w' c' h2 h3 => hK _ _ (h a' cap' w' c' h2 h3)
end
end Go.Proofs.Ytdnmjhkgibaadaa
