/- A row of zeros that the call makes, and what is copied into it, as numbers. No program in sight. -/
import Derived.Test.YtdnmjhkgibaadaaState
import Derived.Laws.CopyOwn
import Derived.OwnWalk
import Derived.Lib.Hide
namespace Go.Proofs.Ytdnmjhkgibaadaa
open Go.RowKit

/-- Zeros; the numbers of a function; a block that holds the numbers of a function. -/
def zs0 (n : Nat) : List Value := List.replicate n (.int .i64 0)
def csL (f : Nat → Int) (n : Nat) : List Value := (List.range n).map fun k => .int .i64 (f k)
theorem csL_len (f : Nat → Int) (n : Nat) : (csL f n).length = n := by simp [csL]
theorem csL_get (f : Nat → Int) (n k : Nat) (h : k < n) : (csL f n)[k]? = some (.int .i64 (f k)) := by simp [csL, h]
theorem csL_one (f : Nat → Int) (n : Nat) : ∀ u ∈ csL f n, u.oneCell' = true := by
  intro u hu
  obtain ⟨x, _, rfl⟩ := List.mem_map.1 hu
  rfl
def RowIs (w : World) (g t n : Nat) (f : Nat → Int) : Prop := w.heap[g]? = some (.cells (csL f n).toArray t (0, 0))
theorem RowIs.lt {w : World} {g t n : Nat} {f : Nat → Int} (h : RowIs w g t n f) : g < w.heap.size := by
  rcases Nat.lt_or_ge g w.heap.size with hlt | hge
  · exact hlt
  · unfold RowIs at h; rw [Array.getElem?_eq_none hge] at h; cases h
theorem RowIs.cell {w : World} {g t n : Nat} {f : Nat → Int} (h : RowIs w g t n f) {k : Nat} (hk : k < n) : w.cell? ⟨g, k, none⟩ = some (.int .i64 (f k)) := by
  unfold RowIs at h
  simp only [World.cell?, h]
  simpa using csL_get f n k hk
theorem RowIs.frozen {w : World} {g t n : Nat} {f : Nat → Int} (h : RowIs w g t n f) (k : Nat) : w.frozen? ⟨g, k, none⟩ = false := by
  unfold RowIs at h
  simp [World.frozen?, h]
theorem RowIs.ints {w : World} {g t n : Nat} {f : Nat → Int} (h : RowIs w g t n f) : IntsAt w (some ⟨g, 0, none⟩) n f := fun k hk => ⟨g, 0, rfl, by rw [Nat.zero_add]; exact h.cell hk⟩
theorem RowIs.below {w w' : World} {B g t n : Nat} {f : Nat → Int} (h : RowIs w g t n f) (hb : Below B w w') (hg : g < B) : RowIs w' g t n f := (hb.block g hg).trans h
theorem RowIs.alloc {w : World} {g t n : Nat} {f : Nat → Int} (h : RowIs w g t n f) (o : Obj) : RowIs (w.alloc o) g t n f := (Below.heap_alloc w o g h.lt).trans h
theorem RowIs.far {w : World} {g t n : Nat} {f : Nat → Int} (h : RowIs w g t n f) {p : Addr} (hp : g ≠ p.block) (u : Value) : RowIs (w.setCell p u) g t n f := (Below.heap_setCell w p u g hp).trans h
theorem RowIs.put {w : World} {g t n : Nat} {f : Nat → Int} (h : RowIs w g t n f) (k : Nat) (x : Int) : RowIs (w.setCell ⟨g, k, none⟩ (.int .i64 x)) g t n (fun j => if j = k then x else f j) := by
  unfold RowIs at h ⊢
  simp only [World.setCell, Array.getElem?_modify, h]
  simp only [if_true, Option.map_some]
  congr 2
  rw [if_neg (by simp)]
  apply Array.ext'
  rw [Array.toList_setIfInBounds]
  apply List.ext_getElem?
  intro j
  rw [List.getElem?_set]
  by_cases hj : j < n
  · rw [csL_get (fun j => if j = k then x else f j) n j hj]
    by_cases hjk : k = j
    · subst hjk; rw [if_pos rfl, if_pos (by rw [csL_len]; exact hj), if_pos rfl]
    · rw [if_neg hjk, csL_get f n j hj, if_neg (fun e => hjk e.symm)]
  · have e1 : (csL (fun j => if j = k then x else f j) n)[j]? = none := List.getElem?_eq_none (by rw [csL_len]; omega)
    have e2 : (csL f n)[j]? = none := List.getElem?_eq_none (by rw [csL_len]; omega)
    rw [e1, e2]
    by_cases hjk : k = j
    · subst hjk; simp [csL_len, hj]
    · rw [if_neg hjk]
theorem splice_rows (f : Nat → Int) (m n : Nat) (h : n ≤ m) : splice (zs0 m) 0 (csL f n) = csL (fun k => if k < n then f k else 0) m := by
  unfold splice
  apply List.ext_getElem?
  intro j
  simp only [List.take_zero, List.nil_append, Nat.zero_add, csL_len]
  by_cases hj : j < n
  · rw [List.getElem?_append_left (by rw [csL_len]; exact hj), csL_get _ _ _ hj, csL_get _ _ _ (by omega), if_pos hj]
  · rw [List.getElem?_append_right (by rw [csL_len]; omega), csL_len, List.getElem?_drop, show n + (j - n) = j by omega]
    by_cases hm : j < m
    · rw [csL_get _ _ _ hm, if_neg hj]; simp [zs0, hm]
    · rw [List.getElem?_eq_none (by simp [zs0]; omega), List.getElem?_eq_none (by rw [csL_len]; omega)]

theorem ints_src {w : World} {A : Option Addr} {n : Nat} {f : Nat → Int} (h : IntsAt w A n f) (hn : 0 < (csL f n).length) : ∃ ad, A = some ad ∧ ∀ j v, (csL f n)[j]? = some v → w.cell? (ad.add j) = some v := by
  rw [csL_len] at hn
  obtain ⟨b, off, rfl, _⟩ := h 0 hn
  refine ⟨_, rfl, fun j v hj => ?_⟩
  have hlt : j < n := by
    rcases Nat.lt_or_ge j n with h | h
    · exact h
    · rw [List.getElem?_eq_none (by rw [csL_len]; exact h)] at hj; cases hj
  rw [csL_get f n j hlt] at hj
  injection hj with hj
  obtain ⟨b', off', e, hc⟩ := h j hlt
  injection e with e
  injection e with e1 e2
  subst e1 e2 hj
  rw [Addr.add_lit]; exact hc
theorem row_splice {w : World} {g t m n : Nat} {f : Nat → Int} (h : w.heap[g]? = some (.cells (splice (zs0 m) 0 (csL f n)).toArray t (0, 0))) (hnm : n ≤ m) : RowIs w g t m (fun k => if k < n then f k else 0) := by
  unfold RowIs; rw [← splice_rows f m n hnm]; exact h

/-- make([]int, n): a block of zeros. -/
theorem wpList_make_zeros {P : Program} (w : World) {ops : Array Oper} {rest : List Oper} {o : Oper} {a : Act} {Q : Exit → Act → World → Prop}
    (hg : o.guard = none) (l c : Operand) (t : TypeId) (hop : o.op = Op.makeSlice t l c)
    (e : TypeId) (i : TypeInfo) (h1 : P.underlying t = some (.slice e)) (h2 : P.info? e = some i) (h3 : i.zero = some (.int .i64 0)) (h4 : i.size = 1) (h5 : i.bytes = 8)
    (n : Nat) (L : Int) (hl : a.eval l = .int .i64 L) (hc : a.eval c = .int .i64 L) (hL : L = (n : Int)) (hn : n ≤ 100000)
    (hK : ∀ w', Hid (w'.heap[w.heap.size]? = some (.cells (zs0 n).toArray e (0, 0))) → Hid (w.grownBy w' none) → wpList P ops Q rest (a.put o.dst (.slice (some ⟨w.heap.size, 0, none⟩) n n)) w') :
    wpList P ops Q (o :: rest) a w := by
  refine wpList_make_full w hg l c t hop w.heap.size e i (.int .i64 0) 1 h1 h2 h3 h4 .i64 .i64 L L n hl hc hL hL (by rw [h5]; omega) (by unfold maxLen; omega) (Nat.le_refl _) ?_
  intro w' hown hgr
  refine hK w' ?_ hgr
  obtain ⟨hlen, h⟩ := hown
  rcases h with ⟨h, _⟩ | ⟨g, cap, cur, hv, _, hh, _, _, hs, ht⟩
  · cases h
  · injection hv with e1 e2 e3
    injection e1 with e1
    injection e1 with e1 _
    subst e1 e3
    show _ = _
    rw [hh]
    have hcur : cur.toList = zs0 n := by
      have : cur.toList.take (n * 1) = cur.toList := List.take_of_length_le (by simp; omega)
      rw [this] at ht
      rw [ht]
      apply List.ext_getElem?
      intro j
      rw [Nat.mul_one]
      by_cases hj : j < n
      · simp [zs0, hj, madeCells, Value.cells, Nat.mod_one]
      · simp [zs0, hj, madeCells, Value.cells]
    rw [← hcur]
end Go.Proofs.Ytdnmjhkgibaadaa
