/- A state that came in, opened: its slices read as rows, its other fields are numbers and bools. No program in sight. -/
import Derived.ProofKit
import Derived.OpenShut
import Derived.Lib.SmallJoins
import Derived.Deep.Fields
import Derived.Deep.Slices
import Derived.Deep.Strs
import Derived.ChangeArms
namespace Go.Proofs.Ytdnmjhkgibaadaa
open Go.Joins Go.ChangeShapes Go.WideShapes Go.RowKit Go.Deep

/-- A slice of integers that came in: nil, or a row of 'cap' cells, the numbers zs. -/
def IsRow (k : IntKind) (w : World) (a : Option Addr) (len cap : Nat) (zs : List Int) : Prop :=
  (a = none ∧ len = 0 ∧ cap = 0 ∧ zs = []) ∨
  ∃ x, a = some x ∧ len ≤ cap ∧ cap ≤ maxLen ∧ zs.length = cap ∧ (∀ i, i < zs.length → w.cell? (x.add i) = some (.int k (zs.getD i 0))) ∧ ∀ n ∈ zs, (Lit.int k n).wf = true
section
variable {H : Type} {enc : TypeId × Value → H} {P : Program} {w : World} {base : Nat}
theorem open_row {k : IntKind} {t e : TypeId} {fuel : Nat} {c : Value} {x : DataW H × List MemPlace} (ht : P.underlying t = some (.slice e)) (he : P.underlying e = some (.int k)) (hc : P.cellsOf e = 1)
    (h : DataW.trod enc P w 0 (fun _ => true) true fuel t [c] = some x) : ∃ A len cap zs, c = .slice A len cap ∧ IsRow k w A len cap zs := by
  rcases open_ints ht he hc h with ⟨hcs, _⟩ | ⟨a, l, cp, zs, hcs, _, hl, hm, hz, _, hcell, hwz⟩
  · simp at hcs
    exact ⟨none, 0, 0, [], hcs, .inl ⟨rfl, rfl, rfl, rfl⟩⟩
  · simp at hcs
    exact ⟨some a, l, cp, zs, hcs, .inr ⟨a, rfl, hl, hm, by simpa using hz, hcell, hwz⟩⟩
theorem six_of (l : List Value) (h : l.length = 6) : ∃ a b c d e f, l = [a, b, c, d, e, f] := by
  match l, h with
  | [a, b, c, d, e, f], _ => exact ⟨a, b, c, d, e, f, rfl⟩
theorem open_state {r : Reach} {b0 : Nat} {t sI tI tB s8 u8 : TypeId} {f0 f1 f2 f3 f4 f5 : Field} {v : Value} {d : DataW H} {p : List MemPlace}
    (hs : P.underlying t = some (.struct #[f0, f1, f2, f3, f4, f5])) (hone : oneCellFields P #[f0, f1, f2, f3, f4, f5] = true) (hC : P.cellsOf t = 6)
    (hsI : P.underlying sI = some (.slice tI)) (hI : P.underlying tI = some (.int .i64)) (hcI : P.cellsOf tI = 1) (hB : P.underlying tB = some .bool) (hs8 : P.underlying s8 = some (.slice u8)) (hu8 : P.underlying u8 = some (.int .u8)) (hc8 : P.cellsOf u8 = 1)
    (hv : Value.okWide P w r b0 t v) (h : DataW.Trod enc P w 0 (fun _ => true) true t v d p)
    (e0 : f0.type = sI := by rfl) (e1 : f1.type = tI := by rfl) (e2 : f2.type = sI := by rfl) (e3 : f3.type = tB := by rfl) (e4 : f4.type = tB := by rfl) (e5 : f5.type = s8 := by rfl) :
    ∃ Ar nr cr zr pc Ac nc cc zc hl st Ao no co zo, v = .agg #[.slice Ar nr cr, .int .i64 pc, .slice Ac nc cc, .bool hl, .bool st, .slice Ao no co] ∧ IsRow .i64 w Ar nr cr zr ∧ IsRow .i64 w Ac nc cc zc ∧ IsRow .u8 w Ao no co zo ∧ (Lit.int .i64 pc).wf = true := by
  obtain ⟨cs, rfl, hsz⟩ := okWide_struct hs hv
  obtain ⟨l⟩ := cs
  obtain ⟨c0, c1, c2, c3, c4, c5, rfl⟩ := six_of l (hsz.trans hC)
  obtain ⟨fuel, hf⟩ := h
  obtain ⟨xs, n, _, hx, _, hlen, hg⟩ := DataW.trod_struct hs hf
  obtain ⟨o0, k0⟩ := hone_of hone 0 f0 rfl
  obtain ⟨o1, k1⟩ := hone_of hone 1 f1 rfl
  obtain ⟨o2, k2⟩ := hone_of hone 2 f2 rfl
  obtain ⟨o3, k3⟩ := hone_of hone 3 f3 rfl
  obtain ⟨o4, k4⟩ := hone_of hone 4 f4 rfl
  obtain ⟨o5, k5⟩ := hone_of hone 5 f5 rfl
  have hxs : ∀ j, j < 6 → ∃ y, xs[j]? = some y := fun j hj => ⟨_, List.getElem?_eq_getElem (by rw [hlen]; exact hj)⟩
  obtain ⟨y0, g0⟩ := hxs 0 (by omega)
  obtain ⟨y1, g1⟩ := hxs 1 (by omega)
  obtain ⟨y2, g2⟩ := hxs 2 (by omega)
  obtain ⟨y3, g3⟩ := hxs 3 (by omega)
  obtain ⟨y4, g4⟩ := hxs 4 (by omega)
  obtain ⟨y5, g5⟩ := hxs 5 (by omega)
  have t0 : DataW.trod enc P w 0 (fun _ => true) true n f0.type [c0] = some y0 := by simpa [Value.cells, o0, k0, g0] using hg 0 f0 rfl
  have t1 : DataW.trod enc P w 0 (fun _ => true) true n f1.type [c1] = some y1 := by simpa [Value.cells, o1, k1, g1] using hg 1 f1 rfl
  have t2 : DataW.trod enc P w 0 (fun _ => true) true n f2.type [c2] = some y2 := by simpa [Value.cells, o2, k2, g2] using hg 2 f2 rfl
  have t3 : DataW.trod enc P w 0 (fun _ => true) true n f3.type [c3] = some y3 := by simpa [Value.cells, o3, k3, g3] using hg 3 f3 rfl
  have t4 : DataW.trod enc P w 0 (fun _ => true) true n f4.type [c4] = some y4 := by simpa [Value.cells, o4, k4, g4] using hg 4 f4 rfl
  have t5 : DataW.trod enc P w 0 (fun _ => true) true n f5.type [c5] = some y5 := by simpa [Value.cells, o5, k5, g5] using hg 5 f5 rfl
  rw [e0] at t0
  rw [e1] at t1
  rw [e2] at t2
  rw [e3] at t3
  rw [e4] at t4
  rw [e5] at t5
  obtain ⟨Ar, nr, cr, zr, rfl, rr⟩ := open_row hsI hI hcI t0
  obtain ⟨pc, hpc, _, wpc⟩ := DataW.trod_int hI t1
  obtain ⟨Ac, nc, cc, zc, rfl, rc⟩ := open_row hsI hI hcI t2
  obtain ⟨hl, hhl, _⟩ := DataW.trod_bool hB t3
  obtain ⟨st, hst, _⟩ := DataW.trod_bool hB t4
  obtain ⟨Ao, no, co, zo, rfl, ro⟩ := open_row hs8 hu8 hc8 t5
  simp at hpc hhl hst
  subst hpc hhl hst
  exact ⟨Ar, nr, cr, zr, pc, Ac, nc, cc, zc, hl, st, Ao, no, co, zo, rfl, rr, rc, ro, wpc⟩
end
end Go.Proofs.Ytdnmjhkgibaadaa
