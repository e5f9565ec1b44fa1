/- trunnionlaw9.Wipe writes over the slices of a state and nowhere else: a contract. -/
import Derived.Test.YtodkenbkogfefaaSame
namespace Go.Proofs.Ytodkenbkogfefaa
open Go.RowKit

/-- n cells that may be written, in a block from B on, below H. -/
def Wt (H B : Nat) (w : World) (A : Option Addr) (n : Nat) : Prop := ∀ k, k < n → ∃ b off, A = some ⟨b, off, none⟩ ∧ B ≤ b ∧ b < H ∧ (∃ u, w.cell? ⟨b, off + k, none⟩ = some u) ∧ w.frozen? ⟨b, off + k, none⟩ = false
theorem wt_own {w : World} {c : Nat → Nat} {d B : Nat} {A : Option Addr} {n cap : Nat} {xs : List Value} (h : Own w c d B (.slice A n cap) xs) : Wt w.heap.size B w A n := by
  intro k hk
  rcases h with ⟨h, _⟩ | ⟨b, off, cap', hv, _, hB, hb, hl, _, h1, h2, h3⟩
  · injection h with h1 h2; omega
  · injection hv with e1 e2 e3
    refine ⟨b, off, e1, hB, hb, ?_, h3 k (by omega)⟩
    exact Option.isSome_iff_exists.1 (h2 k (by omega))
theorem Wt.set {H B : Nat} {w : World} {A : Option Addr} {n : Nat} (h : Wt H B w A n) (p : Addr) (u : Value) : Wt H B (w.setCell p u) A n := by
  intro k hk
  obtain ⟨b, off, e, hB, hb, ⟨v, hv⟩, hf⟩ := h k hk
  refine ⟨b, off, e, hB, hb, ?_, by rw [World.frozen?_setCell]; exact hf⟩
  by_cases hp : p = ⟨b, off + k, none⟩
  · subst hp; exact ⟨u, World.cell?_setCell_same _ _ _ hv⟩
  · exact ⟨v, by rw [World.cell?_setCell_other _ _ _ _ hp]; exact hv⟩
theorem Wt.alloc {H B : Nat} {w : World} {A : Option Addr} {n : Nat} (h : Wt H B w A n) (hH : H ≤ w.heap.size) (o : Obj) : Wt H B (w.alloc o) A n := by
  intro k hk
  obtain ⟨b, off, e, hB, hb, ⟨v, hv⟩, hf⟩ := h k hk
  exact ⟨b, off, e, hB, hb, ⟨v, cell_alloc w o _ _ hv⟩, by rw [World.frozen?_of_block (w := w) (a := ⟨b, off + k, none⟩) (Below.heap_alloc w o b (by omega))]; exact hf⟩
def WRel (w : World) (B : Nat) (Ar Ac Ao : Option Addr) (nr nc no : Nat) (v0 v1 v2 v3 v4 v5 : Value) (n : Nat) (i : Value) (wr : World) : Prop :=
  ∃ k : Nat, k ≤ n ∧ i = .int .i64 k ∧ Box wr w.heap.size 37 v0 v1 v2 v3 v4 v5 ∧ Wt w.heap.size B wr Ar nr ∧ Wt w.heap.size B wr Ac nc ∧ Wt w.heap.size B wr Ao no ∧ Below B w wr
set_option maxRecDepth 100000 in
set_option maxHeartbeats 4000000 in
theorem wipe_any (w : World) (B : Nat) (Ar Ac Ao : Option Addr) (nr cr nc cc no co : Nat) (pc : Int) (hl st : Bool) (hB : B ≤ w.heap.size)
    (hr : Wt w.heap.size B w Ar nr) (hc : Wt w.heap.size B w Ac nc) (ho : Wt w.heap.size B w Ao no) (hnr : nr ≤ 100000) (hnc : nc ≤ 100000) (hno : no ≤ 100000) :
    Calls Try.prog 28 #[.agg #[.slice Ar nr cr, .int .i64 pc, .slice Ac nc cc, .bool hl, .bool st, .slice Ao no co]] w fun e w' => e = .returned (.tuple #[]) ∧ Below B w w' := by
  have H0 := Lib.hid (show WRel w B Ar Ac Ao nr nc no (.slice Ar nr cr) (.int .i64 pc) (.slice Ac nc cc) (.bool hl) (.bool st) (.slice Ao no co) nr (.int .i64 0) (w.alloc (Obj.cells #[.slice Ar nr cr, .int .i64 pc, .slice Ac nc cc, .bool hl, .bool st, .slice Ao no co] 37)) from ⟨0, by omega, rfl, Box.new _ _ _ _ _ _ _ _, hr.alloc (Nat.le_refl _) _, hc.alloc (Nat.le_refl _) _, ho.alloc (Nat.le_refl _) _, (Below.refl _ _).alloc hB _⟩)
  clear hr hc ho
  go_enter Try.func28, Try.ntmps28
  go_wp2
  go_loopw [2] (WRel w B Ar Ac Ao nr nc no (.slice Ar nr cr) (.int .i64 pc) (.slice Ac nc cc) (.bool hl) (.bool st) (.slice Ao no co) nr) (fun i _ => nr - (intOf i).toNat)
  case atStart => exact H0.out
  case round =>
    clear H0
    obtain ⟨k, hk, rfl, hBx, hr, hc, ho, hb⟩ := hrel
    obtain ⟨g0, g1, g2, g3, g4, g5, _⟩ := hBx.cells
    by_cases hlt : k < nr
    · obtain ⟨b, off, hA, hBb, hbl, ⟨u, hu⟩, hf⟩ := hr k hlt
      subst hA
      have i1 : (0 : Int) ≤ (k : Int) := by omega
      have i2 : (k : Int) < (nr : Int) := by omega
      have ne : b ≠ w.heap.size := by omega
      have ne2 : w.heap.size ≠ b := by omega
      have JB := Lib.hid hBx
      have JR := Lib.hid hr
      have JC := Lib.hid hc
      have JO := Lib.hid ho
      have JL := Lib.hid hb
      clear hBx hr hc ho hb
      go_wp2
      go_roundw
      case rel =>
        have hnew : WRel w B (some ⟨b, off, none⟩) Ac Ao nr nc no (.slice (some ⟨b, off, none⟩) nr cr) (.int .i64 pc) (.slice Ac nc cc) (.bool hl) (.bool st) (.slice Ao no co) nr (.int .i64 ((k : Int) + 1)) (wr.setCell ⟨b, off + k, none⟩ (.int .i64 (-1))) := ⟨k + 1, by omega, by go_num, JB.out.far (p := ⟨b, off + k, none⟩) ne2 _, JR.out.set _ _, JC.out.set _ _, JO.out.set _ _, JL.out.setCell (p := ⟨b, off + k, none⟩) hBb _⟩
        first | exact hnew | ((repeat apply Exists.intro); exact ⟨hnew, rfl⟩)
      case measure => simp [intOf]; omega
    · have hge : (nr : Int) ≤ k := by omega
      have H0 := Lib.hid (show WRel w B Ar Ac Ao nr nc no (.slice Ar nr cr) (.int .i64 pc) (.slice Ac nc cc) (.bool hl) (.bool st) (.slice Ao no co) nc (.int .i64 0) wr from ⟨0, by omega, rfl, hBx, hr, hc, ho, hb⟩)
      have JL := Lib.hid hb
      clear hBx hr hc ho hb
      go_wp2
      go_loopw [3] (WRel w B Ar Ac Ao nr nc no (.slice Ar nr cr) (.int .i64 pc) (.slice Ac nc cc) (.bool hl) (.bool st) (.slice Ao no co) nc) (fun i _ => nc - (intOf i).toNat)
      case atStart => exact H0.out
      case round =>
        clear H0
        obtain ⟨k, hk, rfl, hBx, hr, hc, ho, hb⟩ := hrel
        obtain ⟨g0, g1, g2, g3, g4, g5, _⟩ := hBx.cells
        by_cases hlt : k < nc
        · obtain ⟨b, off, hA, hBb, hbl, ⟨u, hu⟩, hf⟩ := hc k hlt
          subst hA
          have i1 : (0 : Int) ≤ (k : Int) := by omega
          have i2 : (k : Int) < (nc : Int) := by omega
          have ne : b ≠ w.heap.size := by omega
          have ne2 : w.heap.size ≠ b := by omega
          have JB := Lib.hid hBx
          have JR := Lib.hid hr
          have JC := Lib.hid hc
          have JO := Lib.hid ho
          have JL := Lib.hid hb
          clear hBx hr hc ho hb
          go_wp2
          go_roundw
          case rel =>
            have hnew : WRel w B Ar (some ⟨b, off, none⟩) Ao nr nc no (.slice Ar nr cr) (.int .i64 pc) (.slice (some ⟨b, off, none⟩) nc cc) (.bool hl) (.bool st) (.slice Ao no co) nc (.int .i64 ((k : Int) + 1)) (wr.setCell ⟨b, off + k, none⟩ (.int .i64 (-1))) := ⟨k + 1, by omega, by go_num, JB.out.far (p := ⟨b, off + k, none⟩) ne2 _, JR.out.set _ _, JC.out.set _ _, JO.out.set _ _, JL.out.setCell (p := ⟨b, off + k, none⟩) hBb _⟩
            first | exact hnew | ((repeat apply Exists.intro); exact ⟨hnew, rfl⟩)
          case measure => simp [intOf]; omega
        · have hge : (nc : Int) ≤ k := by omega
          have H0 := Lib.hid (show WRel w B Ar Ac Ao nr nc no (.slice Ar nr cr) (.int .i64 pc) (.slice Ac nc cc) (.bool hl) (.bool st) (.slice Ao no co) no (.int .i64 0) wr from ⟨0, by omega, rfl, hBx, hr, hc, ho, hb⟩)
          have JL := Lib.hid hb
          clear hBx hr hc ho hb
          go_wp2
          go_loopw [4] (WRel w B Ar Ac Ao nr nc no (.slice Ar nr cr) (.int .i64 pc) (.slice Ac nc cc) (.bool hl) (.bool st) (.slice Ao no co) no) (fun i _ => no - (intOf i).toNat)
          case atStart => exact H0.out
          case round =>
            clear H0
            obtain ⟨k, hk, rfl, hBx, hr, hc, ho, hb⟩ := hrel
            obtain ⟨g0, g1, g2, g3, g4, g5, _⟩ := hBx.cells
            by_cases hlt : k < no
            · obtain ⟨b, off, hA, hBb, hbl, ⟨u, hu⟩, hf⟩ := ho k hlt
              subst hA
              have i1 : (0 : Int) ≤ (k : Int) := by omega
              have i2 : (k : Int) < (no : Int) := by omega
              have ne : b ≠ w.heap.size := by omega
              have ne2 : w.heap.size ≠ b := by omega
              have JB := Lib.hid hBx
              have JR := Lib.hid hr
              have JC := Lib.hid hc
              have JO := Lib.hid ho
              have JL := Lib.hid hb
              clear hBx hr hc ho hb
              go_wp2
              go_roundw
              case rel =>
                have hnew : WRel w B Ar Ac (some ⟨b, off, none⟩) nr nc no (.slice Ar nr cr) (.int .i64 pc) (.slice Ac nc cc) (.bool hl) (.bool st) (.slice (some ⟨b, off, none⟩) no co) no (.int .i64 ((k : Int) + 1)) (wr.setCell ⟨b, off + k, none⟩ (.int .u8 1)) := ⟨k + 1, by omega, by go_num, JB.out.far (p := ⟨b, off + k, none⟩) ne2 _, JR.out.set _ _, JC.out.set _ _, JO.out.set _ _, JL.out.setCell (p := ⟨b, off + k, none⟩) hBb _⟩
                first | exact hnew | ((repeat apply Exists.intro); exact ⟨hnew, rfl⟩)
              case measure => simp [intOf]; omega
            · have hge : (no : Int) ≤ k := by omega
              have H0 := Lib.hid (show WRel w B Ar Ac Ao nr nc no (.slice Ar nr cr) (.int .i64 pc) (.slice Ac nc cc) (.bool hl) (.bool st) (.slice Ao no co) no (.int .i64 0) wr from ⟨0, by omega, rfl, hBx, hr, hc, ho, hb⟩)
              have JL := Lib.hid hb
              clear hBx hr hc ho hb
              go_wp2
              go_end0
              exact ⟨rfl, JL.out⟩
end Go.Proofs.Ytodkenbkogfefaa
