/- States of a machine in memory: slices of numbers that read as a function, kept by all that writes only elsewhere. No program in sight. -/
import Derived.Test.YtdnmjhkgibaadaaOwn
import Derived.Test.YtdnmjhkgibaadaaPlain
namespace Go.Proofs.Ytdnmjhkgibaadaa
open Go.RowKit

theorem btrans {a b c : World} (h1 : Below a.heap.size a b) (h2 : Below b.heap.size b c) : Below a.heap.size a c := h1.trans (h2.mono h1.size)
/-- The slice at A of n numbers reads as f. -/
def IntsAt (w : World) (A : Option Addr) (n : Nat) (f : Nat → Int) : Prop := ∀ k, k < n → ∃ b off, A = some ⟨b, off, none⟩ ∧ w.cell? ⟨b, off + k, none⟩ = some (.int .i64 (f k))
theorem IntsAt.keep {w w' : World} {A : Option Addr} {n : Nat} {f : Nat → Int} (h : IntsAt w A n f) (hk : ∀ a u, w.cell? a = some u → w'.cell? a = some u) : IntsAt w' A n f := fun k hkn => by
  obtain ⟨b, off, e, hc⟩ := h k hkn
  exact ⟨b, off, e, hk _ _ hc⟩
theorem cell_below {w w' : World} (hb : Below w.heap.size w w') : ∀ a u, w.cell? a = some u → w'.cell? a = some u := fun a _ hu => (hb.cell (World.block_lt_of_cell? w a hu)).trans hu
theorem cell_alloc (w : World) (o : Obj) : ∀ a u, w.cell? a = some u → (w.alloc o).cell? a = some u := fun a _ hu => (World.cell?_alloc_lt _ _ _ (World.block_lt_of_cell? w a hu)).trans hu
theorem IntsAt.below {w w' : World} {A : Option Addr} {n : Nat} {f : Nat → Int} (h : IntsAt w A n f) (hb : Below w.heap.size w w') : IntsAt w' A n f := h.keep (cell_below hb)
theorem IntsAt.alloc {w : World} {A : Option Addr} {n : Nat} {f : Nat → Int} (h : IntsAt w A n f) (o : Obj) : IntsAt (w.alloc o) A n f := h.keep (cell_alloc w o)
theorem cell_drew (w : World) (m : Nat) : ∀ a u, w.cell? a = some u → (w.drewN m).cell? a = some u := fun _ _ hu => hu
/-- A control register of a state: what is missing is 0. -/
def cv (f : Nat → Int) (n : Nat) (k : Nat) : Int := if k < n then W (f k) else 0
theorem cv_bd (f : Nat → Int) (n k : Nat) : 0 ≤ cv f n k ∧ cv f n k ≤ 4294967295 := by
  unfold cv; split
  · exact W_bd _
  · omega
end Go.Proofs.Ytdnmjhkgibaadaa
