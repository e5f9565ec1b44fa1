/- The slices of a state that came in, as what reads the same. No program in sight. -/
import Derived.Test.YtdnmjhkgibaadaaOpen
import Derived.Test.YtdnmjhkgibaadaaSm
namespace Go.Proofs.Ytdnmjhkgibaadaa
open Go.RowKit

theorem isrow_len {k : IntKind} {w : World} {A : Option Addr} {n cap : Nat} {zs : List Int} (h : IsRow k w A n cap zs) : (A = none → cap = 0) ∧ n ≤ zs.length ∧ n ≤ cap := by
  rcases h with ⟨rfl, rfl, rfl, rfl⟩ | ⟨x, rfl, hl, hm, hz, _⟩
  · exact ⟨fun _ => rfl, Nat.le_refl _, Nat.le_refl _⟩
  · exact ⟨(fun e => by cases e), by omega, hl⟩
theorem isrow_at {k : IntKind} {w : World} {A : Option Addr} {n cap : Nat} {zs : List Int} (h : IsRow k w A n cap zs) : ∀ j, j < n → ∃ b off, A = some ⟨b, off, none⟩ ∧ w.cell? ⟨b, off + j, none⟩ = some (.int k (zs.getD j 0)) := by
  intro j hj
  rcases h with ⟨rfl, rfl, rfl, rfl⟩ | ⟨x, rfl, hl, hm, hz, hc, _⟩
  · omega
  · obtain ⟨b, off, rfl, h2⟩ := ints_at hc (by omega)
    exact ⟨b, off, rfl, h2 j (by omega)⟩
theorem isrow_ints {w : World} {A : Option Addr} {n cap : Nat} {zs : List Int} (h : IsRow .i64 w A n cap zs) : IntsAt w A n (fun k => zs.getD k 0) := isrow_at h
theorem isrow_bys {w : World} {A : Option Addr} {n cap : Nat} {zs : List Int} (h : IsRow .u8 w A n cap zs) : Src w A n (bys (zs.take n)) := by
  have hl := (isrow_len h).2.1
  refine ⟨by rw [bys_len, List.length_take]; omega, bys_one _, fun hn e => ?_, fun ad e j u hj => ?_⟩
  · obtain ⟨b, off, e', _⟩ := isrow_at h 0 hn
    rw [e] at e'; cases e'
  · have hjn : j < n := by
      rcases Nat.lt_or_ge j n with h | h
      · exact h
      · rw [List.getElem?_eq_none (by rw [bys_len, List.length_take]; omega)] at hj; cases hj
    obtain ⟨b, off, e', hc⟩ := isrow_at h j hjn
    rw [e] at e'
    injection e' with e'
    subst e'
    rw [Addr.add_lit, hc]
    unfold bys at hj
    rw [List.getElem?_map, List.getElem?_take, if_pos hjn, List.getElem?_eq_getElem (by omega)] at hj
    simp at hj
    rw [← hj]
    simp [List.getD, List.getElem?_eq_getElem (show j < zs.length by omega)]
theorem isrow_blen {w : World} {A : Option Addr} {n cap : Nat} {zs : List Int} (h : IsRow .u8 w A n cap zs) : (zs.take n).length = n := by
  have hl := (isrow_len h).2.1
  rw [List.length_take]; omega
end Go.Proofs.Ytdnmjhkgibaadaa
