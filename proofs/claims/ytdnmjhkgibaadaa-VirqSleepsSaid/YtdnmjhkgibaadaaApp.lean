/- append onto a slice of the call's own at a step of a region that draws its order; a state's memory lent. No program in sight. -/
import Derived.Test.YtdnmjhkgibaadaaBox
import Derived.Deep.AppendLies
namespace Go.Proofs.Ytdnmjhkgibaadaa
open Go.RowKit

section
variable {P : Program} (w : World)
theorem step_append_mine {ops : Array Oper} {o : Oper} {a : Act} {K : Act → World → Prop} {Q : Exit → Act → World → Prop} {E : Prop} (hgd : o.guard = none) (s x : Operand) (t : TypeId)
    (ho : o.op = .call { callee := .builtin .append, args := #[s, x], argTypes := #[t, t] })
    (e : TypeId) (i : TypeInfo) (z : Value) (bytes : Nat) (ht : P.underlying t = some (.slice e)) (hi : P.info? e = some i) (hz : i.zero = some z)
    (hsize : i.size = 1) (hby : i.bytes = bytes) (hzs : z.cells.size = 1)
    (c : Nat → Nat) (d B : Nat) (v : Value) (xs : List Value) (n : Nat) (hn : xs.length = n) (hs : a.eval s = v) (hown : Own w c d B v xs) (hB : B ≤ w.heap.size)
    (A : Option Addr) (m cc : Nat) (news : List Value) (hx : a.eval x = .slice A m cc) (hsrc : Src w A m news) (h63 : n + m ≤ maxLen) (hbytes : (n + m) * bytes ≤ 140737488355328) (N : Nat) (hN : n + m = N)
    (h : ∀ a' cap' w' c', Own w' c' d B (.slice a' N cap') (xs ++ news) → Stp B (fun x => x = d) w c w' c' → K (a.put o.dst (.slice a' N cap')) w') :
    if Region.wanted o (yielded ops a.tmps) = true then Oper.wp P o a w K Q else E := by
  have hw : Region.wanted o (yielded ops a.tmps) = true := by simp [Region.wanted, hgd]
  rw [if_pos hw]
  subst hN
  exact wp_append_mine w s x t ho e i z bytes ht hi hz hsize hby hzs c d B v xs n hn hs hown hB A m cc news hx hsrc h63 hbytes h
end
theorem stp_all {B : Nat} {w w' : World} {c' : Nat → Nat} (h : Stp B (fun x => x = 0) w (fun _ => 1) w' c') : Below w.heap.size w w' :=
  ⟨h.os, h.tape, h.output, h.size, fun k hk => h.block k hk (.inr (by decide))⟩
theorem stp_low {B : Nat} {S : Nat → Prop} {w w' : World} {c c' : Nat → Nat} (h : Stp B S w c w' c') (hB : B ≤ w.heap.size) : Below B w w' := h.below hB
theorem src_new (w : World) (u : Value) (t : TypeId) (h1 : u.oneCell' = true) : Src (w.alloc (.cells #[u] t)) (some ⟨w.heap.size, 0, none⟩) 1 [u] := by
  refine ⟨rfl, ?_, (fun _ h => by cases h), fun ad e j v hj => ?_⟩
  · intro v hv
    simp at hv
    subst hv; exact h1
  · injection e with e
    subst e
    rw [Addr.add_lit, Nat.zero_add, World.cell?_alloc_new]
    have hj0 : j = 0 := by
      rcases Nat.eq_zero_or_pos j with h | h
      · exact h
      · rw [List.getElem?_eq_none (by simp; omega)] at hj; cases hj
    subst hj0
    simpa using hj
/-- A slice lent: it reads as xs, and behind it, within its capacity, lies m. -/
def LentAt (w : World) (B : Nat) (v : Value) (n : Nat) (xs : List Value) (m : Value) : Prop :=
  ∃ b off cap, v = .slice (some ⟨b, off, none⟩) n cap ∧ xs.length = n ∧ B ≤ b ∧ b < w.heap.size ∧ n < cap ∧ cap ≤ maxLen ∧ ∀ j u, (xs ++ [m])[j]? = some u → w.cell? ⟨b, off + j, none⟩ = some u
theorem LentAt.keep {w w' : World} {B n : Nat} {v m : Value} {xs : List Value} (h : LentAt w B v n xs m) (hs : w.heap.size ≤ w'.heap.size) (hk : ∀ k, B ≤ k → k < w.heap.size → w'.heap[k]? = w.heap[k]?) : LentAt w' B v n xs m := by
  obtain ⟨b, off, cap, hv, hl, hB, hb, hn, hm, hc⟩ := h
  exact ⟨b, off, cap, hv, hl, hB, by omega, hn, hm, fun j u hj => by rw [World.cell?_of_block (w := w) (a := ⟨b, off + j, none⟩) (hk b hB hb)]; exact hc j u hj⟩
theorem LentAt.below {w w' : World} {B n : Nat} {v m : Value} {xs : List Value} (h : LentAt w B v n xs m) (hb : Below w.heap.size w w') : LentAt w' B v n xs m := h.keep hb.size fun k _ hk => hb.block k hk
theorem LentAt.base {w : World} {B B' n : Nat} {v m : Value} {xs : List Value} (h : LentAt w B v n xs m) (hB : B' ≤ B) : LentAt w B' v n xs m := by
  obtain ⟨b, off, cap, hv, hl, hBb, hr⟩ := h
  exact ⟨b, off, cap, hv, hl, Nat.le_trans hB hBb, hr⟩
theorem lent_of_own {w : World} {c : Nat → Nat} {d B n N cap : Nat} {A : Option Addr} {xs : List Value} {m : Value} (h : Own w c d B (.slice A N cap) (xs ++ [m])) (hn : xs.length = n) : LentAt w B (.slice A n cap) n xs m := by
  rcases h with ⟨_, h⟩ | ⟨b, off, cap', hv, hc, hB, hb, hl, hm, h1, h2, h3⟩
  · simp at h
  · injection hv with e1 e2 e3
    subst e1 e3
    rw [List.length_append] at hl
    simp at hl
    exact ⟨b, off, cap, rfl, hn, hB, hb, by omega, hm, h1⟩
theorem LentAt.src {w : World} {B n cap : Nat} {A : Option Addr} {m : Value} {xs : List Value} (h : LentAt w B (.slice A n cap) n xs m) (h1 : ∀ u ∈ xs, u.oneCell' = true) : Src w A n xs := by
  obtain ⟨b, off, cap', hv, hl, hB, hb, hn, hm, hc⟩ := h
  injection hv with e1 e2 e3
  subst e1 e3
  refine ⟨hl, h1, (fun _ h => by cases h), fun ad e j u hj => ?_⟩
  injection e with e
  subst e
  rw [Addr.add_lit]
  refine hc j u ?_
  have hlt : j < xs.length := by
    rcases Nat.lt_or_ge j xs.length with h | h
    · exact h
    · rw [List.getElem?_eq_none h] at hj; cases hj
  rw [List.getElem?_append_left hlt]; exact hj
theorem LentAt.form {w : World} {B n cap : Nat} {A : Option Addr} {m : Value} {xs : List Value} (h : LentAt w B (.slice A n cap) n xs m) : ∃ b off, A = some ⟨b, off, none⟩ ∧ n < cap ∧ cap ≤ maxLen ∧ B ≤ b ∧ b < w.heap.size ∧ w.cell? ⟨b, off + n, none⟩ = some m := by
  obtain ⟨b, off, cap', hv, hl, hB, hb, hn, hm, hc⟩ := h
  injection hv with e1 e2 e3
  subst e1 e3
  refine ⟨b, off, rfl, hn, hm, hB, hb, hc n m ?_⟩
  rw [List.getElem?_append_right (by omega), hl]; simp
end Go.Proofs.Ytdnmjhkgibaadaa
