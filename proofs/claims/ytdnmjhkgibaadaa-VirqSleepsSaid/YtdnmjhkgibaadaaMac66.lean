/- What the reference's functions answer of the instruction wfi (operation 66): contracts. -/
import Derived.Test.YtdnmjhkgibaadaaRefSleep
import Derived.Test.YtdnmjhkgibaadaaBlk
import Derived.Laws.EntriesVeiled
namespace Go.Proofs.Ytdnmjhkgibaadaa
open Go.RowKit

set_option maxRecDepth 100000 in
theorem form66 (w : World) : Calls Try.prog 40 #[.int .i64 66] w fun e w' => (∃ s, e = .returned (.tuple #[.int .u8 78, .string s])) ∧ w = w' := by
  go_enter Try.func40, Try.ntmps40
  go_wp2
  go_ret2
  exact ⟨⟨_, rfl⟩, rfl⟩
set_option maxRecDepth 100000 in
theorem alu66 (x y : Int) (w : World) : Calls Try.prog 41 #[.int .i64 66, .int .i64 x, .int .i64 y] w fun e w' => e = .returned (.tuple #[.int .i64 0, .bool false]) ∧ w = w' := by
  go_enter Try.func41, Try.ntmps41
  go_wp2_with (first | (go_at_call 19; refine (refW_any _ _).mono ?_; rintro e w' ⟨rfl, rfl⟩))
  go_ret2
  exact ⟨rfl, rfl⟩
set_option maxRecDepth 100000 in
theorem taken66 (x y : Int) (w : World) : Calls Try.prog 43 #[.int .i64 66, .int .i64 x, .int .i64 y] w fun e w' => e = .returned (.tuple #[.bool false, .bool false]) ∧ w = w' := by
  go_enter Try.func43, Try.ntmps43
  go_wp2_with (first | (go_at_call 19; refine (refW_any _ _).mono ?_; rintro e w' ⟨rfl, rfl⟩))
  go_ret2
  exact ⟨rfl, rfl⟩
set_option maxRecDepth 100000 in
theorem ret4 {fn : Func} {t u v x : Tmp} (h : fn.results = #[.tmp t, .tmp u, .tmp v, .tmp x]) (tmps : Array Value) (P : Program) (w : World) :
    (results fn tmps).run P w = .ok (.tuple #[tmps.getD t undef, tmps.getD u undef, tmps.getD v undef, tmps.getD x undef]) w := by
  simp [results, h, go_sem]
set_option maxRecDepth 100000 in
theorem access66 (w : World) : Calls Try.prog 42 #[.int .i64 66] w fun e w' => e = .returned (.tuple #[.int .i64 0, .int .i64 0, .bool false, .bool false]) ∧ w = w' := by
  go_enter Try.func42, Try.ntmps42
  go_wp2
  (try simp only [Exit.inBlock, Exit.then])
  refine bodyPost_ret (ret4 rfl _ _ _) rfl ?_
  exact ⟨rfl, rfl⟩
set_option maxRecDepth 100000 in
theorem walk0 (p : Value) (w : World) : Calls Try.prog 37 #[p, .int .i64 0, .int .i64 0, .int .i64 0, .bool false] w fun e w' => e = .returned (.tuple #[.int .i64 0, .int .i64 0]) ∧ w = w' := by
  have h1 : W 0 = 0 := by decide
  have h2 : bits .and .i64 0 2147483648 = 0 := by decide
  go_enter Try.func37, Try.ntmps37
  go_wp2_with fail
  refine (refW_any _ _).mono ?_
  rintro e w' ⟨rfl, rfl⟩
  rw [h1]
  go_wp2_with fail
  go_ret2
  exact ⟨rfl, rfl⟩
set_option maxRecDepth 100000 in
set_option maxHeartbeats 2000000 in
theorem encode66 (w : World) : Calls Try.prog 55 #[.agg #[.int .i64 66, .int .i64 0, .int .i64 0, .int .i64 0, .int .i64 0]] w fun e w' => e = .returned (.tuple #[.int .i64 1107296256, .int .i64 0]) ∧ Below w.heap.size w w' := by
  have o1 : bits .or .i64 1107296256 0 = 1107296256 := by decide
  have a1 : bits .and .i64 0 65535 = 0 := by decide
  go_enter Try.func55, Try.ntmps55
  go_wp2_with (go_at_call 40; refine (form66 _).mono ?_; rintro e w' ⟨⟨s, rfl⟩, rfl⟩)
  go_ret2
  exact ⟨rfl, (Below.refl _ _).alloc (Nat.le_refl _) _⟩
set_option maxRecDepth 100000 in
set_option maxHeartbeats 2000000 in
theorem decode66 (w : World) : Calls Try.prog 39 #[.int .i64 1107296256] w fun e w' => e = .returned (.tuple #[.agg #[.int .i64 66, .int .i64 0, .int .i64 0, .int .i64 0, .int .i64 0], .int .i64 0]) ∧ Below w.heap.size w w' := by
  have hW : W 1107296256 = 1107296256 := by decide
  have a1 : bits .and .i64 1056 15 = 0 := by decide
  go_enter Try.func39, Try.ntmps39
  go_wp2_with fail
  refine (refW_any _ _).mono ?_
  rintro e w1 ⟨rfl, rfl⟩
  rw [hW]
  go_wp2_with (go_at_call 40; refine (form66 _).mono ?_; rintro e w' ⟨⟨s, rfl⟩, rfl⟩)
  refine (encode66 _).mono ?_
  rintro e w2 ⟨rfl, hb2⟩
  have hc := cell_below hb2
  have hf : ∀ k, w2.frozen? ⟨w.heap.size, k, none⟩ = false := fun k => by rw [hb2.frozen (p := ⟨w.heap.size, k, none⟩) (by simp; omega)]; simp
  have x0 := hc ⟨w.heap.size + 1, 0, none⟩ (.int .i64 66) (by simp)
  have z0 := hc ⟨w.heap.size, 0, none⟩ (.int .i64 0) (by simp)
  have f0 := hf 0
  have x1 := hc ⟨w.heap.size + 1, 1, none⟩ (.int .i64 0) (by simp)
  have z1 := hc ⟨w.heap.size, 1, none⟩ (.int .i64 0) (by simp)
  have f1 := hf 1
  have x2 := hc ⟨w.heap.size + 1, 2, none⟩ (.int .i64 0) (by simp)
  have z2 := hc ⟨w.heap.size, 2, none⟩ (.int .i64 0) (by simp)
  have f2 := hf 2
  have x3 := hc ⟨w.heap.size + 1, 3, none⟩ (.int .i64 0) (by simp)
  have z3 := hc ⟨w.heap.size, 3, none⟩ (.int .i64 0) (by simp)
  have f3 := hf 3
  have x4 := hc ⟨w.heap.size + 1, 4, none⟩ (.int .i64 0) (by simp)
  have z4 := hc ⟨w.heap.size, 4, none⟩ (.int .i64 0) (by simp)
  have f4 := hf 4
  have HB := Lib.hid ((((Below.refl w.heap.size w).alloc (Nat.le_refl _) _).alloc (by simp) _).trans (hb2.mono (by simp; omega)))
  have HK : Hid (Blk w2 w.heap.size 74 5 (fun _ => .int .i64 0)) := Lib.hid (((Blk.new w 74 5 #[.int .i64 0, .int .i64 0, .int .i64 0, .int .i64 0, .int .i64 0] (fun _ => .int .i64 0) rfl).alloc _).below hb2 (by simp; omega))
  clear hc hf hb2
  go_wp2_with fail
  obtain ⟨W3, hW3⟩ : ∃ W3, (((((w2.setCell ⟨w.heap.size, 0, none⟩ (.int .i64 66)).setCell ⟨w.heap.size, 1, none⟩ (.int .i64 0)).setCell ⟨w.heap.size, 2, none⟩ (.int .i64 0)).setCell ⟨w.heap.size, 3, none⟩ (.int .i64 0)).setCell ⟨w.heap.size, 4, none⟩ (.int .i64 0)) = W3 := ⟨_, rfl⟩
  rw [hW3]
  have hk := (((((HK.out.put 0 (.int .i64 66)).put 1 (.int .i64 0)).put 2 (.int .i64 0)).put 3 (.int .i64 0)).put 4 (.int .i64 0))
  have hbf := ((((HB.out.setCell (p := ⟨w.heap.size, 0, none⟩) (Nat.le_refl _) (.int .i64 66)).setCell (p := ⟨w.heap.size, 1, none⟩) (Nat.le_refl _) (.int .i64 0)).setCell (p := ⟨w.heap.size, 2, none⟩) (Nat.le_refl _) (.int .i64 0)).setCell (p := ⟨w.heap.size, 3, none⟩) (Nat.le_refl _) (.int .i64 0)).setCell (p := ⟨w.heap.size, 4, none⟩) (Nat.le_refl _) (.int .i64 0)
  rw [hW3] at hk hbf
  have r0 : W3.cell? ⟨w.heap.size, 0, none⟩ = some (.int .i64 66) := hk.cell (k := 0) (by omega)
  have r1 : W3.cell? ⟨w.heap.size, 1, none⟩ = some (.int .i64 0) := hk.cell (k := 1) (by omega)
  have r2 : W3.cell? ⟨w.heap.size, 2, none⟩ = some (.int .i64 0) := hk.cell (k := 2) (by omega)
  have r3 : W3.cell? ⟨w.heap.size, 3, none⟩ = some (.int .i64 0) := hk.cell (k := 3) (by omega)
  have r4 : W3.cell? ⟨w.heap.size, 4, none⟩ = some (.int .i64 0) := hk.cell (k := 4) (by omega)
  exact bodyPost_ret (v := .tuple #[.agg #[.int .i64 66, .int .i64 0, .int .i64 0, .int .i64 0, .int .i64 0], .int .i64 0]) (by simp [results, Try.results39, go_sem, r0, r1, r2, r3, r4]) rfl ⟨rfl, hbf⟩
/-- The memory that holds wfi at address 0. -/
def Mem66 (w : World) (pm pb : Nat) : Prop := w.cell? ⟨pm, 0, none⟩ = some (.slice (some ⟨pb, 0, none⟩) 4096 4096) ∧ w.cell? ⟨pb, 0, none⟩ = some (.int .u8 0) ∧ w.cell? ⟨pb, 1, none⟩ = some (.int .u8 0) ∧ w.cell? ⟨pb, 2, none⟩ = some (.int .u8 0) ∧ w.cell? ⟨pb, 3, none⟩ = some (.int .u8 66)
theorem Mem66.keep {w w' : World} {pm pb : Nat} (h : Mem66 w pm pb) (hk : ∀ a u, w.cell? a = some u → a.block = pm ∨ a.block = pb → w'.cell? a = some u) : Mem66 w' pm pb :=
  ⟨hk _ _ h.1 (.inl rfl), hk _ _ h.2.1 (.inr rfl), hk _ _ h.2.2.1 (.inr rfl), hk _ _ h.2.2.2.1 (.inr rfl), hk _ _ h.2.2.2.2 (.inr rfl)⟩
set_option maxRecDepth 100000 in
set_option maxHeartbeats 2000000 in
theorem mload66 (w : World) (pm pb : Nat) (h : Mem66 w pm pb) : Calls Try.prog 38 #[.pointer (some ⟨pm, 0, none⟩), .int .i64 0, .int .i64 4] w fun e w' => e = .returned (.tuple #[.int .i64 1107296256, .bool true]) ∧ w = w' := by
  obtain ⟨h0, h1, h2, h3, h4⟩ := h
  have o1 : bits .or .i64 0 66 = 66 := by decide
  have o2 : bits .or .i64 16896 0 = 16896 := by decide
  have o3 : bits .or .i64 4325376 0 = 4325376 := by decide
  have o4 : bits .or .i64 1107296256 0 = 1107296256 := by decide
  go_enter Try.func38, Try.ntmps38
  go_wp2
  go_loop [8, 9] (fun v i => (i = .int .i64 3 ∧ v = .int .i64 0) ∨ (i = .int .i64 2 ∧ v = .int .i64 66) ∨ (i = .int .i64 1 ∧ v = .int .i64 16896) ∨ (i = .int .i64 0 ∧ v = .int .i64 4325376) ∨ (i = .int .i64 (-1) ∧ v = .int .i64 1107296256)) (fun _ i => (intOf i + 1).toNat)
  case atStart => exact .inl ⟨rfl, rfl⟩
  case round =>
    rcases hrel with ⟨rfl, rfl⟩ | ⟨rfl, rfl⟩ | ⟨rfl, rfl⟩ | ⟨rfl, rfl⟩ | ⟨rfl, rfl⟩
    · go_wp2
      go_round
      case rel => exact .inr (.inl ⟨rfl, rfl⟩)
      case measure => simp [intOf]
    · go_wp2
      go_round
      case rel => exact .inr (.inr (.inl ⟨rfl, rfl⟩))
      case measure => simp [intOf]
    · go_wp2
      go_round
      case rel => exact .inr (.inr (.inr (.inl ⟨rfl, rfl⟩)))
      case measure => simp [intOf]
    · go_wp2
      go_round
      case rel => exact .inr (.inr (.inr (.inr ⟨rfl, rfl⟩)))
      case measure => simp [intOf]
    · go_wp2
      go_ret2
      exact ⟨rfl, rfl⟩
end Go.Proofs.Ytdnmjhkgibaadaa
