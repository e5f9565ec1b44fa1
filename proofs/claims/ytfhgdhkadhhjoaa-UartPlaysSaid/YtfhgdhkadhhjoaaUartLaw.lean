/- The lists that the laws of the serial line speak of, a new serial line, and that the law's own example holds. No conditions. -/
import Derived.Test.YtfhgdhkadhhjoaaUartRef
import Derived.Deep.QuietTactic
import Derived.BigQuiet
namespace Go.Proofs.Ytfhgdhkadhhjoaa
open Go.RowKit

theorem btrans {a b c : World} (h1 : Below a.heap.size a b) (h2 : Below b.heap.size b c) : Below a.heap.size a c := h1.trans (h2.mono h1.size)
theorem ua_new (w : World) (c : Nat → Nat) (i B t : Nat) (hB : B ≤ w.heap.size) :
    ∃ c', UA (w.alloc (.cells #[.slice none 0 0, .slice none 0 0] t)) c' i B w.heap.size [] [] ∧ Stp B (fun d => d / 3 = i) w c (w.alloc (.cells #[.slice none 0 0, .slice none 0 0] t)) c' := by
  refine ⟨fun k => if k < w.heap.size then c k else 3 * i, ⟨hB, by simp, if_neg (Nat.lt_irrefl _), by simp, by simp, _, _, by simp, by simp, Own.nil _ _ _ _, Own.nil _ _ _ _⟩, ?_⟩
  exact ⟨rfl, rfl, rfl, by simp, fun k hk => if_pos hk, fun k hk _ => Below.heap_alloc w _ k hk⟩
theorem alive7 (w : World) : Calls Try.prog 5 #[] w fun e w' => e = .returned (.bool true) ∧ Below w.heap.size w w' := by
  obtain ⟨c0, hu, hs⟩ := ua_new w (fun _ => 0) 0 w.heap.size 27 (Nat.le_refl _)
  have Hu := Lib.hid hu
  have Hs := Lib.hid hs
  clear hu hs
  go_enter Try.func5, Try.ntmps5
  go_wp2_with fail
  refine (in_yes _ c0 0 w.heap.size w.heap.size [] [] 65 (by simp) Hu.out (by simp)).mono ?_
  rintro e w1 ⟨rfl, c1, hu1, hs1⟩
  have Hu1 := Lib.hid hu1
  have Hs1 := Lib.hid hs1
  clear hu1 hs1
  go_wp2_with fail
  refine (load_4c _ c1 0 w.heap.size w.heap.size [] [] 65 (by omega) Hu1.out (by simp)).mono ?_
  rintro e w2 ⟨rfl, c2, hu2, hs2⟩
  have Hu2 := Lib.hid hu2
  have Hs2 := Lib.hid hs2
  clear hu2 hs2
  go_wp2_with fail
  refine (load_4n _ c2 0 w.heap.size w.heap.size [] [] Hu2.out rfl).mono ?_
  rintro e w3 ⟨rfl, c3, hu3, hs3⟩
  have Hs3 := Lib.hid hs3
  clear hu3 hs3
  go_wp2_with fail
  go_ret
  exact ⟨rfl, (((Hs.out.trans Hs1.out).trans Hs2.out).trans Hs3.out).below (Nat.le_refl _)⟩

/-- The numbers from 0 on; the lowest eight bits of the first numbers of a row. -/
def insL (m : Nat) : List Int := (List.range m).map Int.ofNat
def outL (f : Nat → Int) (m : Nat) : List Int := (List.range m).map fun j => f j % 256
theorem insL_len (m : Nat) : (insL m).length = m := by simp [insL]
theorem outL_len (f : Nat → Int) (m : Nat) : (outL f m).length = m := by simp [outL]
theorem insL_snoc (k : Nat) (h : k < 16) : insL k ++ [(k : Int) % 256] = insL (k + 1) := by
  simp [insL, List.range_succ]; omega
theorem outL_snoc (f : Nat → Int) (k : Nat) : outL f k ++ [f k % 256] = outL f (k + 1) := by
  simp [outL, List.range_succ]
theorem insL_drop (m k : Nat) (h : k < m) : (insL m).drop k = (k : Int) :: (insL m).drop (k + 1) := by
  have hl : k < (insL m).length := by rw [insL_len]; exact h
  rw [List.drop_eq_getElem_cons hl]
  simp [insL]
theorem outL_get (f : Nat → Int) (m k : Nat) (h : k < m) : (by8 (outL f m))[k]? = some (.int .u8 (f k % 256)) := by
  simp [by8, outL, h]
end Go.Proofs.Ytfhgdhkadhhjoaa
