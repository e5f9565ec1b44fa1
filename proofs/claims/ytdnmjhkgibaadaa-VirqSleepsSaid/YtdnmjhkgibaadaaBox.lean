/- A struct of six cells in a block of the call's own: read, stored into, kept. No program in sight. -/
import Derived.Test.YtdnmjhkgibaadaaSm
namespace Go.Proofs.Ytdnmjhkgibaadaa
open Go.RowKit

/-- Block b holds six cells. -/
def Box (w : World) (b t : Nat) (v0 v1 v2 v3 v4 v5 : Value) : Prop := w.heap[b]? = some (.cells #[v0, v1, v2, v3, v4, v5] t (0, 0))
theorem Box.lt {w : World} {b t : Nat} {v0 v1 v2 v3 v4 v5 : Value} (h : Box w b t v0 v1 v2 v3 v4 v5) : b < w.heap.size := by
  rcases Nat.lt_or_ge b w.heap.size with hlt | hge
  · exact hlt
  · unfold Box at h; rw [Array.getElem?_eq_none hge] at h; cases h
theorem Box.new (w : World) (t : Nat) (v0 v1 v2 v3 v4 v5 : Value) : Box (w.alloc (.cells #[v0, v1, v2, v3, v4, v5] t)) w.heap.size t v0 v1 v2 v3 v4 v5 := by
  exact heap_alloc_new _ _
theorem Box.keep {w : World} {b t : Nat} {v0 v1 v2 v3 v4 v5 : Value} (h : Box w b t v0 v1 v2 v3 v4 v5) {w' : World} (hk : w'.heap[b]? = w.heap[b]?) : Box w' b t v0 v1 v2 v3 v4 v5 := hk.trans h
theorem Box.below {w : World} {b t : Nat} {v0 v1 v2 v3 v4 v5 : Value} (h : Box w b t v0 v1 v2 v3 v4 v5) {w' : World} {B : Nat} (hb : Below B w w') (hB : b < B) : Box w' b t v0 v1 v2 v3 v4 v5 := h.keep (hb.block b hB)
theorem Box.alloc {w : World} {b t : Nat} {v0 v1 v2 v3 v4 v5 : Value} (h : Box w b t v0 v1 v2 v3 v4 v5) (o : Obj) : Box (w.alloc o) b t v0 v1 v2 v3 v4 v5 := h.keep (Below.heap_alloc w o b h.lt)
theorem Box.far {w : World} {b t : Nat} {v0 v1 v2 v3 v4 v5 : Value} (h : Box w b t v0 v1 v2 v3 v4 v5) {p : Addr} (hp : b ≠ p.block) (u : Value) : Box (w.setCell p u) b t v0 v1 v2 v3 v4 v5 := h.keep (Below.heap_setCell w p u b hp)
theorem Box.cells {w : World} {b t : Nat} {v0 v1 v2 v3 v4 v5 : Value} (h : Box w b t v0 v1 v2 v3 v4 v5) : w.cell? ⟨b, 0, none⟩ = some v0 ∧ w.cell? ⟨b, 1, none⟩ = some v1 ∧ w.cell? ⟨b, 2, none⟩ = some v2 ∧ w.cell? ⟨b, 3, none⟩ = some v3 ∧ w.cell? ⟨b, 4, none⟩ = some v4 ∧ w.cell? ⟨b, 5, none⟩ = some v5 ∧ (∀ k, w.frozen? ⟨b, k, none⟩ = false) := by
  unfold Box at h
  simp [World.cell?, World.frozen?, h]
theorem Box.set0 {w : World} {b t : Nat} {v0 v1 v2 v3 v4 v5 : Value} (h : Box w b t v0 v1 v2 v3 v4 v5) (u : Value) : Box (w.setCell ⟨b, 0, none⟩ u) b t u v1 v2 v3 v4 v5 := by
  unfold Box at h ⊢
  simp [World.setCell, Array.getElem?_modify, h]
theorem Box.set1 {w : World} {b t : Nat} {v0 v1 v2 v3 v4 v5 : Value} (h : Box w b t v0 v1 v2 v3 v4 v5) (u : Value) : Box (w.setCell ⟨b, 1, none⟩ u) b t v0 u v2 v3 v4 v5 := by
  unfold Box at h ⊢
  simp [World.setCell, Array.getElem?_modify, h]
theorem Box.set2 {w : World} {b t : Nat} {v0 v1 v2 v3 v4 v5 : Value} (h : Box w b t v0 v1 v2 v3 v4 v5) (u : Value) : Box (w.setCell ⟨b, 2, none⟩ u) b t v0 v1 u v3 v4 v5 := by
  unfold Box at h ⊢
  simp [World.setCell, Array.getElem?_modify, h]
theorem Box.set3 {w : World} {b t : Nat} {v0 v1 v2 v3 v4 v5 : Value} (h : Box w b t v0 v1 v2 v3 v4 v5) (u : Value) : Box (w.setCell ⟨b, 3, none⟩ u) b t v0 v1 v2 u v4 v5 := by
  unfold Box at h ⊢
  simp [World.setCell, Array.getElem?_modify, h]
theorem Box.set4 {w : World} {b t : Nat} {v0 v1 v2 v3 v4 v5 : Value} (h : Box w b t v0 v1 v2 v3 v4 v5) (u : Value) : Box (w.setCell ⟨b, 4, none⟩ u) b t v0 v1 v2 v3 u v5 := by
  unfold Box at h ⊢
  simp [World.setCell, Array.getElem?_modify, h]
theorem Box.set5 {w : World} {b t : Nat} {v0 v1 v2 v3 v4 v5 : Value} (h : Box w b t v0 v1 v2 v3 v4 v5) (u : Value) : Box (w.setCell ⟨b, 5, none⟩ u) b t v0 v1 v2 v3 v4 u := by
  unfold Box at h ⊢
  simp [World.setCell, Array.getElem?_modify, h]
/-- All six cells are stored. -/
theorem st6 {W W6 : World} {b t : Nat} {v0 v1 v2 v3 v4 v5 s0 s1 s2 s3 s4 s5 : Value} (h : Box W b t v0 v1 v2 v3 v4 v5) (h6 : ((((((W.setCell ⟨b, 0, none⟩ s0).setCell ⟨b, 1, none⟩ s1).setCell ⟨b, 2, none⟩ s2).setCell ⟨b, 3, none⟩ s3).setCell ⟨b, 4, none⟩ s4).setCell ⟨b, 5, none⟩ s5) = W6) :
    Box W6 b t s0 s1 s2 s3 s4 s5 ∧ (∀ k, k ≠ b → W6.heap[k]? = W.heap[k]?) ∧ W6.heap.size = W.heap.size ∧ ∀ B, B ≤ b → Below B W W6 := by
  subst h6
  refine ⟨((((((h.set0 s0).set1 s1).set2 s2).set3 s3).set4 s4).set5 s5), fun k hk => ?_, by simp, fun B hB => ?_⟩
  · rw [Below.heap_setCell _ _ _ _ hk, Below.heap_setCell _ _ _ _ hk, Below.heap_setCell _ _ _ _ hk, Below.heap_setCell _ _ _ _ hk, Below.heap_setCell _ _ _ _ hk, Below.heap_setCell _ _ _ _ hk]
  · exact ((((((Below.refl B W).setCell hB _).setCell hB _).setCell hB _).setCell hB _).setCell hB _).setCell hB _
end Go.Proofs.Ytdnmjhkgibaadaa
