/- A block whose cells are known by a function. No program in sight. -/
import Derived.Test.YtdnmjhkgibaadaaBox
namespace Go.Proofs.Ytdnmjhkgibaadaa
open Go.RowKit

def Blk (w : World) (b t n : Nat) (g : Nat → Value) : Prop := w.heap[b]? = some (.cells ((List.range n).map g).toArray t (0, 0))
section
variable {w w' : World} {b t n : Nat} {g : Nat → Value}
theorem rangeMap_get (g : Nat → Value) (n k : Nat) (h : k < n) : ((List.range n).map g)[k]? = some (g k) := by simp [h]
theorem Blk.lt (h : Blk w b t n g) : b < w.heap.size := by
  rcases Nat.lt_or_ge b w.heap.size with hlt | hge
  · exact hlt
  · unfold Blk at h; rw [Array.getElem?_eq_none hge] at h; cases h
theorem Blk.cell (h : Blk w b t n g) {k : Nat} (hk : k < n) : w.cell? ⟨b, k, none⟩ = some (g k) := by
  unfold Blk at h
  simp only [World.cell?, h]
  simpa using rangeMap_get g n k hk
theorem Blk.frozen (h : Blk w b t n g) (k : Nat) : w.frozen? ⟨b, k, none⟩ = false := by
  unfold Blk at h
  simp [World.frozen?, h]
theorem Blk.keep (h : Blk w b t n g) (hk : w'.heap[b]? = w.heap[b]?) : Blk w' b t n g := hk.trans h
theorem Blk.below {B : Nat} (h : Blk w b t n g) (hb : Below B w w') (hB : b < B) : Blk w' b t n g := h.keep (hb.block b hB)
theorem Blk.far (h : Blk w b t n g) {p : Addr} (hp : b ≠ p.block) (u : Value) : Blk (w.setCell p u) b t n g := h.keep (Below.heap_setCell w p u b hp)
theorem Blk.alloc (h : Blk w b t n g) (o : Obj) : Blk (w.alloc o) b t n g := h.keep (Below.heap_alloc w o b h.lt)
theorem Blk.congr {g' : Nat → Value} (h : Blk w b t n g) (hg : ∀ k, k < n → g k = g' k) : Blk w b t n g' := by
  unfold Blk at h ⊢
  rw [h]
  congr 2
  apply Array.ext'
  apply List.map_congr_left
  intro k hk
  exact hg k (List.mem_range.1 hk)
theorem Blk.put (h : Blk w b t n g) (k : Nat) (u : Value) : Blk (w.setCell ⟨b, k, none⟩ u) b t n (fun j => if j = k then u else g j) := by
  unfold Blk at h ⊢
  simp only [World.setCell, Array.getElem?_modify, h]
  simp only [if_true, Option.map_some]
  congr 2
  rw [if_neg (by simp)]
  apply Array.ext'
  rw [Array.toList_setIfInBounds]
  apply List.ext_getElem?
  intro j
  rw [List.getElem?_set]
  by_cases hj : j < n
  · rw [rangeMap_get (fun j => if j = k then u else g j) n j hj]
    by_cases hjk : k = j
    · subst hjk; rw [if_pos rfl, if_pos (by simpa using hj), if_pos rfl]
    · rw [if_neg hjk, rangeMap_get g n j hj, if_neg (fun e => hjk e.symm)]
  · have e1 : ((List.range n).map (fun j => if j = k then u else g j))[j]? = none := List.getElem?_eq_none (by simp; omega)
    have e2 : ((List.range n).map g)[j]? = none := List.getElem?_eq_none (by simp; omega)
    rw [e1, e2]
    by_cases hjk : k = j
    · subst hjk; simp [hj]
    · rw [if_neg hjk]
theorem Blk.new (w : World) (t n : Nat) (a : Array Value) (g : Nat → Value) (h : a = ((List.range n).map g).toArray) : Blk (w.alloc (.cells a t)) w.heap.size t n g := by
  subst h; exact heap_alloc_new _ _
end
end Go.Proofs.Ytdnmjhkgibaadaa
