/- What Load and Out do to a serial line in memory, and all the methods of the reference's serial line: contracts. Conditions: the line lies in memory of the call's own (UA), and holds few bytes. -/
import Derived.Test.YtfhgdhkadhhjoaaUart
namespace Go.Proofs.Ytfhgdhkadhhjoaa
open Go.RowKit

theorem UA.alloc {w : World} {c : Nat → Nat} {i B u : Nat} {ins outs : List Int} (h : UA w c i B u ins outs) (o : Obj) : UA (w.alloc o) c i B u ins outs :=
  h.step ((Stp.refl B (fun _ => False) w c).alloc o) (fun _ h => h.elim)
theorem load_0 (w : World) (c : Nat → Nat) (i B u : Nat) (ins outs : List Int) (h : UA w c i B u ins outs) :
    Calls Try.prog 7 #[.pointer (some ⟨u, 0, none⟩), .int .i64 0] w fun e w' => e = .returned (.tuple #[.int .i64 0, .bool true]) ∧ ∃ c', UA w' c' i B u (ins) (outs) ∧ Stp B (fun d => d / 3 = i) w c w' c' := by
  have Hu := Lib.hid h
  clear h
  have k1 : bits .and .i64 0 3 = 0 := by decide
  go_enter Try.func7, Try.ntmps7
  go_wp2
  go_ret2
  exact ⟨rfl, c, Hu.out.alloc _, (Stp.refl _ _ _ _).alloc _⟩
theorem load_8 (w : World) (c : Nat → Nat) (i B u : Nat) (ins outs : List Int) (h : UA w c i B u ins outs) (hl : ins.length ≤ 1000) :
    Calls Try.prog 7 #[.pointer (some ⟨u, 0, none⟩), .int .i64 8] w fun e w' => e = .returned (.tuple #[.int .i64 ins.length, .bool true]) ∧ ∃ c', UA w' c' i B u (ins) (outs) ∧ Stp B (fun d => d / 3 = i) w c w' c' := by
  have Hu := Lib.hid h
  clear h
  have k1 : bits .and .i64 8 3 = 0 := by decide
  go_enter Try.func7, Try.ntmps7
  go_wp2_with (go_at_call 17; refine (count_any _ c i B u ins outs (Hu.out.alloc _) hl).mono ?_; rintro e w' ⟨rfl, rfl⟩)
  go_ret2
  exact ⟨rfl, c, Hu.out.alloc _, (Stp.refl _ _ _ _).alloc _⟩
theorem load_4n (w : World) (c : Nat → Nat) (i B u : Nat) (ins outs : List Int) (h : UA w c i B u ins outs) (hl : ins = []) :
    Calls Try.prog 7 #[.pointer (some ⟨u, 0, none⟩), .int .i64 4] w fun e w' => e = .returned (.tuple #[.int .i64 4294967295, .bool true]) ∧ ∃ c', UA w' c' i B u (ins) (outs) ∧ Stp B (fun d => d / 3 = i) w c w' c' := by
  have Hu := Lib.hid h
  clear h
  have k1 : bits .and .i64 4 3 = 0 := by decide
  have Hl := Lib.hid hl
  clear hl
  go_enter Try.func7, Try.ntmps7
  go_wp2_with (go_at_call 16; refine (first_nil _ c i B u ins outs (Hu.out.alloc _) Hl.out).mono ?_; rintro e w' ⟨rfl, hc'⟩)
  go_ret2
  obtain ⟨c', h1, h2⟩ := hc'
  exact ⟨rfl, c', h1, ((Stp.refl _ _ _ _).alloc _).trans h2⟩
theorem load_4c (w : World) (c : Nat → Nat) (i B u : Nat) (ins outs : List Int) (x : Int) (hx : 0 ≤ x ∧ x ≤ 255) (h : UA w c i B u (x :: ins) outs) (hl : ins.length ≤ 1000) :
    Calls Try.prog 7 #[.pointer (some ⟨u, 0, none⟩), .int .i64 4] w fun e w' => e = .returned (.tuple #[.int .i64 x, .bool true]) ∧ ∃ c', UA w' c' i B u (ins) (outs) ∧ Stp B (fun d => d / 3 = i) w c w' c' := by
  have Hu := Lib.hid h
  clear h
  have k1 : bits .and .i64 4 3 = 0 := by decide
  go_enter Try.func7, Try.ntmps7
  go_wp2_with (go_at_call 16; refine (first_cons _ c i B u ins outs x hx (Hu.out.alloc _) hl).mono ?_; rintro e w' ⟨rfl, hc'⟩)
  go_ret2
  obtain ⟨c', h1, h2⟩ := hc'
  exact ⟨rfl, c', h1, ((Stp.refl _ _ _ _).alloc _).trans h2⟩
theorem load_no (w : World) (c : Nat → Nat) (i B u : Nat) (ins outs : List Int) (off : Int) (h : UA w c i B u ins outs) (h0 : off ≠ 0) (h4 : off ≠ 4) (h8 : off ≠ 8) :
    Calls Try.prog 7 #[.pointer (some ⟨u, 0, none⟩), .int .i64 off] w fun e w' => e = .returned (.tuple #[.int .i64 0, .bool false]) ∧ ∃ c', UA w' c' i B u (ins) (outs) ∧ Stp B (fun d => d / 3 = i) w c w' c' := by
  have Hu := Lib.hid h
  clear h
  have k1 := and_3 off
  by_cases g : off < 0
  · clear h0 h4 h8
    go_enter Try.func7, Try.ntmps7
    go_wp2_with fail
    go_ret2
    exact ⟨rfl, c, Hu.out.alloc _, (Stp.refl _ _ _ _).alloc _⟩
  · by_cases g2 : off % 4 = 0
    · have g3 : 12 ≤ off := by omega
      have g4 : 3 ≤ off / 4 := by omega
      have b1 : (off % 4 != 0) = false := by simp [g2]
      clear h0 h4 h8 g2
      go_enter Try.func7, Try.ntmps7
      go_wp2_with fail
      go_ret2
      exact ⟨rfl, c, Hu.out.alloc _, (Stp.refl _ _ _ _).alloc _⟩
    · have b1 : (off % 4 != 0) = true := by simp [g2]
      clear h0 h4 h8 g2
      go_enter Try.func7, Try.ntmps7
      go_wp2_with fail
      go_ret2
      exact ⟨rfl, c, Hu.out.alloc _, (Stp.refl _ _ _ _).alloc _⟩
end Go.Proofs.Ytfhgdhkadhhjoaa
