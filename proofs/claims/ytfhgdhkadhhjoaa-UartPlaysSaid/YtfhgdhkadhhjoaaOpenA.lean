/- A slice of structs of three numbers that came in, opened. No program in sight. -/
import Derived.ProofKit
import Derived.OpenShut
import Derived.Deep.Fields
import Derived.Deep.Slices
namespace Go.Proofs.Ytfhgdhkadhhjoaa
open Go.ChangeShapes Go.WideShapes Go.RowKit Go.Deep

/-- The slice at A of n triples of numbers. -/
def ActsAt (w : World) (A : Option Addr) (n : Nat) : Prop := ∀ k, k < n → ∃ b off x y z, A = some ⟨b, off, none⟩ ∧ w.cell? ⟨b, off + k * 3, none⟩ = some (.int .i64 x) ∧ w.cell? ⟨b, off + k * 3 + 1, none⟩ = some (.int .i64 y) ∧ w.cell? ⟨b, off + k * 3 + 2, none⟩ = some (.int .i64 z)
section
variable {H : Type} {enc : TypeId × Value → H} {P : Program} {w : World} {base : Nat}
theorem three_of (l : List Value) (h : l.length = 3) : ∃ a b c, l = [a, b, c] := by
  match l, h with
  | [a, b, c], _ => exact ⟨a, b, c, rfl⟩
theorem open_acts {r : Reach} {b0 : Nat} {t e tI : TypeId} {f0 f1 f2 : Field} {v : Value} {d : DataW H} {p : List MemPlace}
    (ht : P.underlying t = some (.slice e)) (he : P.underlying e = some (.struct #[f0, f1, f2])) (hone : oneCellFields P #[f0, f1, f2] = true) (hC : P.cellsOf e = 3) (hI : P.underlying tI = some (.int .i64))
    (hv : Value.okWide P w r b0 t v) (h : DataW.Trod enc P w 0 (fun _ => true) true t v d p) (e0 : f0.type = tI := by rfl) (e1 : f1.type = tI := by rfl) (e2 : f2.type = tI := by rfl) :
    ∃ A len cap, v = .slice A len cap ∧ ActsAt w A len := by
  obtain ⟨A, len, cap, rfl⟩ := okWide_slice ht hv
  refine ⟨A, len, cap, rfl, ?_⟩
  obtain ⟨fuel, hf⟩ := h
  rcases open_slice ht hf with ⟨hcs, _⟩ | ⟨a, l, cp, m, n, D, Pl, hcs, _, hl, hm, hmm, _, hi⟩
  · simp [Value.cells] at hcs
    obtain ⟨rfl, rfl, rfl⟩ := hcs
    intro k hk; omega
  · simp [Value.cells] at hcs
    obtain ⟨rfl, rfl, rfl⟩ := hcs
    intro k hk
    have hkm : k < m := by rw [hmm, if_pos rfl]; omega
    obtain ⟨cs', hc, ht'⟩ := hi k hkm
    rw [hC] at hc
    obtain ⟨_, hcl, hat⟩ := World.cells?_some hc
    obtain ⟨c0, c1, c2, rfl⟩ := three_of cs' hcl
    obtain ⟨xs, n', _, _, _, hlen, hg⟩ := DataW.trod_struct he ht'
    obtain ⟨o0, q0⟩ := hone_of hone 0 f0 rfl
    obtain ⟨o1, q1⟩ := hone_of hone 1 f1 rfl
    obtain ⟨o2, q2⟩ := hone_of hone 2 f2 rfl
    have hxs : ∀ j, j < 3 → ∃ y, xs[j]? = some y := fun j hj => ⟨_, List.getElem?_eq_getElem (by rw [hlen]; exact hj)⟩
    obtain ⟨y0, g0⟩ := hxs 0 (by omega)
    obtain ⟨y1, g1⟩ := hxs 1 (by omega)
    obtain ⟨y2, g2⟩ := hxs 2 (by omega)
    have t0 : DataW.trod enc P w 0 (fun _ => true) true n' f0.type [c0] = some y0 := by simpa [o0, q0, g0] using hg 0 f0 rfl
    have t1 : DataW.trod enc P w 0 (fun _ => true) true n' f1.type [c1] = some y1 := by simpa [o1, q1, g1] using hg 1 f1 rfl
    have t2 : DataW.trod enc P w 0 (fun _ => true) true n' f2.type [c2] = some y2 := by simpa [o2, q2, g2] using hg 2 f2 rfl
    rw [e0] at t0
    rw [e1] at t1
    rw [e2] at t2
    obtain ⟨x, hx, _, _⟩ := DataW.trod_int hI t0
    obtain ⟨y, hy, _, _⟩ := DataW.trod_int hI t1
    obtain ⟨z, hz, _, _⟩ := DataW.trod_int hI t2
    simp at hx hy hz
    subst hx hy hz
    have z0 := hat 0 (by omega)
    have z1 := hat 1 (by omega)
    have z2 := hat 2 (by omega)
    rw [Go.Deep.add_add] at z0 z1 z2
    simp at z0 z1 z2
    obtain ⟨b, off, s⟩ := a
    have hs : s = none := by
      obtain ⟨cs0, hc0, _⟩ := hi 0 (by omega)
      rw [hC] at hc0
      obtain ⟨_, hcl0, hat0⟩ := World.cells?_some hc0
      have h00 := hat0 0 (by omega)
      obtain ⟨u0, u1, u2, rfl⟩ := three_of cs0 hcl0
      have hq : (((⟨b, off, s⟩ : Addr).add (0 * 3)).add 0).spot = none := World.cell?_spot (v := u0) (by rw [h00]; rfl)
      exact hq
    subst hs
    refine ⟨b, off, x, y, z, rfl, ?_, ?_, ?_⟩
    · rw [← Addr.add_lit]; exact z0
    · rw [Nat.add_assoc, ← Addr.add_lit]; exact z1
    · rw [Nat.add_assoc, ← Addr.add_lit]; exact z2
end
end Go.Proofs.Ytfhgdhkadhhjoaa
