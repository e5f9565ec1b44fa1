/- What the serial line's methods do to a serial line in memory, the program's and the reference's: contracts. Conditions: the line lies in memory of the call's own (UA), and holds few bytes. -/
import Derived.Test.YtfhgdhkadhhjoaaRows
import Derived.Test.YtfhgdhkadhhjoaaOwn
import Derived.Test.YtfhgdhkadhhjoaaPlain
import Derived.WalkKit
import Derived.WalkLawsBesides
import Derived.Laws.EntriesVeiled
import Derived.LoopTactic
import Derived.Lib.Hide
import Derived.Outline
import Derived.WalkSpells
namespace Go.Proofs.Ytfhgdhkadhhjoaa
open Go.RowKit

theorem ret_int {k : IntKind} {a b : Int} (h : a = b) : Ending.returned (.int k a) = .returned (.int k b) := by rw [h]
theorem ret_bool {a b : Bool} (h : a = b) : Ending.returned (.bool a) = .returned (.bool b) := by rw [h]
theorem Try.info8 : (Try.prog.info? 5).map (fun i => (i.zero, i.size, i.bytes)) = some (some (.int .u8 0), 1, 1) := by kernel_rfl

/-- Bytes as values. -/
def by8 (zs : List Int) : List Value := zs.map (Value.int .u8)
theorem by8_len (zs : List Int) : (by8 zs).length = zs.length := List.length_map _
theorem by8_one (zs : List Int) : ∀ u ∈ by8 zs, u.oneCell' = true := by
  intro u hu
  obtain ⟨x, _, rfl⟩ := List.mem_map.1 hu
  rfl
theorem by8_snoc (zs : List Int) (b : Int) : by8 zs ++ [.int .u8 b] = by8 (zs ++ [b]) := by simp [by8]

/-- A serial line at block u: its bytes that wait, and those that were written out; owner i. -/
def UA (w : World) (c : Nat → Nat) (i B u : Nat) (ins outs : List Int) : Prop :=
  B ≤ u ∧ u < w.heap.size ∧ c u = 3 * i ∧ w.frozen? ⟨u, 0, none⟩ = false ∧ w.frozen? ⟨u, 1, none⟩ = false ∧
  ∃ vi vo, w.cell? ⟨u, 0, none⟩ = some vi ∧ w.cell? ⟨u, 1, none⟩ = some vo ∧ Own w c (3 * i + 1) B vi (by8 ins) ∧ Own w c (3 * i + 2) B vo (by8 outs)

theorem UA.step {w w' : World} {c c' : Nat → Nat} {i B u : Nat} {ins outs : List Int} {S : Nat → Prop} (h : UA w c i B u ins outs) (hs : Stp B S w c w' c') (hS : ∀ d, S d → d / 3 ≠ i) : UA w' c' i B u ins outs := by
  obtain ⟨h1, h2, h3, h4, h5, vi, vo, h6, h7, h8, h9⟩ := h
  have hn : ¬ S (c u) := fun h => hS _ h (by rw [h3]; omega)
  refine ⟨h1, Nat.lt_of_lt_of_le h2 hs.size, (hs.col u h2).trans h3, ?_, ?_, vi, vo, ?_, ?_, h8.step hs (fun h => hS _ h (by omega)), h9.step hs (fun h => hS _ h (by omega))⟩
  · rw [hs.frozen (p := ⟨u, 0, none⟩) h2 hn]; exact h4
  · rw [hs.frozen (p := ⟨u, 1, none⟩) h2 hn]; exact h5
  · rw [hs.cell (p := ⟨u, 0, none⟩) h2 hn]; exact h6
  · rw [hs.cell (p := ⟨u, 1, none⟩) h2 hn]; exact h7

/-- The first field is stored anew, its slice having turned alone; likewise the second. -/
theorem ua_put {w w1 : World} {c c1 : Nat → Nat} {i B u : Nat} {ins ins' outs : List Int} {v : Value} (h : UA w c i B u ins outs) (hs : Stp B (fun x => x = 3 * i + 1) w c w1 c1) (ho : Own w1 c1 (3 * i + 1) B v (by8 ins')) :
    UA (w1.setCell ⟨u, 0, none⟩ v) c1 i B u ins' outs ∧ Stp B (fun d => d / 3 = i) w c (w1.setCell ⟨u, 0, none⟩ v) c1 := by
  obtain ⟨h1, h2, h3, h4, h5, vi, vo, h6, h7, h8, h9⟩ := h
  have hcu : c1 u = 3 * i := (hs.col u h2).trans h3
  have hn : ¬ (c u = 3 * i + 1) := by omega
  have g0 : w1.cell? ⟨u, 0, none⟩ = some vi := (hs.cell (p := ⟨u, 0, none⟩) h2 hn).trans h6
  have g1 : w1.cell? ⟨u, 1, none⟩ = some vo := (hs.cell (p := ⟨u, 1, none⟩) h2 hn).trans h7
  refine ⟨⟨h1, ?_, hcu, ?_, ?_, v, vo, World.cell?_setCell_same _ _ _ g0, ?_, ho.set h1 (by show c1 u ≠ _; omega) v, (h9.step hs (by omega)).set h1 (by show c1 u ≠ _; omega) v⟩, ?_⟩
  · simp; exact Nat.lt_of_lt_of_le h2 hs.size
  · rw [World.frozen?_setCell, hs.frozen (p := ⟨u, 0, none⟩) h2 hn]; exact h4
  · rw [World.frozen?_setCell, hs.frozen (p := ⟨u, 1, none⟩) h2 hn]; exact h5
  · rw [World.cell?_setCell_other _ _ _ _ (by simp)]; exact g1
  · exact (hs.mono (T := fun d => d / 3 = i) (fun d hd => by omega)).set h1 (by show c1 u / 3 = i; omega) v
theorem ua_put' {w w1 : World} {c c1 : Nat → Nat} {i B u : Nat} {ins outs outs' : List Int} {v : Value} (h : UA w c i B u ins outs) (hs : Stp B (fun x => x = 3 * i + 2) w c w1 c1) (ho : Own w1 c1 (3 * i + 2) B v (by8 outs')) :
    UA (w1.setCell ⟨u, 1, none⟩ v) c1 i B u ins outs' ∧ Stp B (fun d => d / 3 = i) w c (w1.setCell ⟨u, 1, none⟩ v) c1 := by
  obtain ⟨h1, h2, h3, h4, h5, vi, vo, h6, h7, h8, h9⟩ := h
  have hcu : c1 u = 3 * i := (hs.col u h2).trans h3
  have hn : ¬ (c u = 3 * i + 2) := by omega
  have g0 : w1.cell? ⟨u, 0, none⟩ = some vi := (hs.cell (p := ⟨u, 0, none⟩) h2 hn).trans h6
  have g1 : w1.cell? ⟨u, 1, none⟩ = some vo := (hs.cell (p := ⟨u, 1, none⟩) h2 hn).trans h7
  refine ⟨⟨h1, ?_, hcu, ?_, ?_, vi, v, ?_, World.cell?_setCell_same _ _ _ g1, (h8.step hs (by omega)).set h1 (by show c1 u ≠ _; omega) v, ho.set h1 (by show c1 u ≠ _; omega) v⟩, ?_⟩
  · simp; exact Nat.lt_of_lt_of_le h2 hs.size
  · rw [World.frozen?_setCell, hs.frozen (p := ⟨u, 0, none⟩) h2 hn]; exact h4
  · rw [World.frozen?_setCell, hs.frozen (p := ⟨u, 1, none⟩) h2 hn]; exact h5
  · rw [World.cell?_setCell_other _ _ _ _ (by simp)]; exact g0
  · exact (hs.mono (T := fun d => d / 3 = i) (fun d hd => by omega)).set h1 (by show c1 u / 3 = i; omega) v

theorem src_one (w : World) (u : Value) (t : TypeId) (h : u.oneCell' = true) : Src (w.alloc (.cells #[u] t)) (some ⟨w.heap.size, 0, none⟩) 1 [u] := by
  refine ⟨rfl, by simpa using h, fun _ => by simp, fun ad h j x hj => ?_⟩
  injection h with h
  subst h
  rw [Addr.add_lit, World.cell?_alloc_new]
  match j, hj with
  | 0, hj => simpa using hj
  | j + 1, hj => simp at hj

theorem cell_old (w : World) (o : Obj) (u k : Nat) (h : u < w.heap.size) : (w.alloc o).cell? ⟨u, k, none⟩ = w.cell? ⟨u, k, none⟩ := World.cell?_alloc_lt _ _ _ h
theorem frozen_old (w : World) (o : Obj) (u k : Nat) (h : u < w.heap.size) : (w.alloc o).frozen? ⟨u, k, none⟩ = w.frozen? ⟨u, k, none⟩ := World.frozen?_alloc_old _ _ _ (show u ≠ w.heap.size by omega)
set_option maxHeartbeats 1000000 in
theorem in_yes (w : World) (c : Nat → Nat) (i B u : Nat) (ins outs : List Int) (b : Int) (hB : B ≤ w.heap.size) (h : UA w c i B u ins outs) (hl : ins.length < 16) :
    Calls Try.prog 6 #[.pointer (some ⟨u, 0, none⟩), .int .i64 b] w fun e w' => e = .returned (.bool true) ∧ ∃ c', UA w' c' i B u (ins ++ [b % 256]) (outs) ∧ Stp B (fun d => d / 3 = i) w c w' c' := by
  have Hu := Lib.hid h
  obtain ⟨h1, h2, h3, h4, h5, vi, vo, h6, h7, h8, h9⟩ := h
  obtain ⟨i0, hi, hz0, hz1, hz2⟩ := info_parts Try.info8
  obtain ⟨a, cap, rfl, hcl, hcm, hca⟩ := h8.form
  obtain ⟨ao, capo, rfl, hclo, hcmo, hcao⟩ := h9.form
  rw [by8_len] at h6 hcl h8
  rw [by8_len] at h7 hclo h9
  have H8 := Lib.hid h8
  have H9 := Lib.hid h9
  have Hi := Lib.hid hi
  have Hz0 := Lib.hid hz0
  have Hz1 := Lib.hid hz1
  have Hz2 := Lib.hid hz2
  have H3 := Lib.hid h3
  clear h8 h9 hi hz0 hz1 hz2 h3 hca hcao
  go_enter Try.func6, Try.ntmps6
  go_wp2_with (at_builtin; go_must (refine wpList_append_mine _ rfl (.tmp 15) (.tmp 18) 25 rfl 5 i0 (.int .u8 0) 1 Try.underlying25 Hi.out Hz0.out Hz1.out Hz2.out rfl c (3 * i + 1) B (.slice a ins.length cap) (by8 ins) ins.length (by8_len _) rfl (H8.out.alloc _) (by simp; omega) (some ⟨w.heap.size, 0, none⟩) 1 1 [.int .u8 (b % 256)] rfl (src_one _ _ _ rfl) (by unfold maxLen; omega) (by omega) ?_; intro a' cap' w' c' ho hst; have g1 : w'.cell? ⟨u, 0, none⟩ = some (.slice a ins.length cap) := (hst.cell (p := ⟨u, 0, none⟩) (by simp; omega) (by show ¬ c u = _; rw [H3.out]; omega)).trans ((cell_old _ _ _ _ h2).trans h6); have g2 : w'.frozen? ⟨u, 0, none⟩ = false := (hst.frozen (p := ⟨u, 0, none⟩) (by simp; omega) (by show ¬ c u = _; rw [H3.out]; omega)).trans ((frozen_old _ _ _ _ h2).trans h4); have Ho := Lib.hid ho; have Hst := Lib.hid hst; clear ho hst))
  go_ret
  have hst := Hst.out
  have ho := Ho.out
  rw [by8_snoc] at ho
  exact ⟨rfl, c', ua_put Hu.out (((Stp.refl B _ w c).alloc _).trans hst) ho⟩
theorem in_no (w : World) (c : Nat → Nat) (i B u : Nat) (ins outs : List Int) (b : Int) (h : UA w c i B u ins outs) (hl : 16 ≤ ins.length) :
    Calls Try.prog 6 #[.pointer (some ⟨u, 0, none⟩), .int .i64 b] w fun e w' => e = .returned (.bool false) ∧ ∃ c', UA w' c' i B u (ins) (outs) ∧ Stp B (fun d => d / 3 = i) w c w' c' := by
  have Hu := Lib.hid h
  obtain ⟨h1, h2, h3, h4, h5, vi, vo, h6, h7, h8, h9⟩ := h
  obtain ⟨i0, hi, hz0, hz1, hz2⟩ := info_parts Try.info8
  obtain ⟨a, cap, rfl, hcl, hcm, hca⟩ := h8.form
  obtain ⟨ao, capo, rfl, hclo, hcmo, hcao⟩ := h9.form
  rw [by8_len] at h6 hcl h8
  rw [by8_len] at h7 hclo h9
  have H8 := Lib.hid h8
  have H9 := Lib.hid h9
  have Hi := Lib.hid hi
  have Hz0 := Lib.hid hz0
  have Hz1 := Lib.hid hz1
  have Hz2 := Lib.hid hz2
  have H3 := Lib.hid h3
  clear h8 h9 hi hz0 hz1 hz2 h3 hca hcao
  go_enter Try.func6, Try.ntmps6
  go_wp2_with fail
  go_ret
  exact ⟨rfl, c, Hu.out, Stp.refl _ _ _ _⟩
theorem store_0 (w : World) (c : Nat → Nat) (i B u : Nat) (ins outs : List Int) (b : Int) (hB : B ≤ w.heap.size) (h : UA w c i B u ins outs) (hl : outs.length < 100000) :
    Calls Try.prog 8 #[.pointer (some ⟨u, 0, none⟩), .int .i64 0, .int .i64 b] w fun e w' => e = .returned (.bool true) ∧ ∃ c', UA w' c' i B u (ins) (outs ++ [b % 256]) ∧ Stp B (fun d => d / 3 = i) w c w' c' := by
  have Hu := Lib.hid h
  obtain ⟨h1, h2, h3, h4, h5, vi, vo, h6, h7, h8, h9⟩ := h
  obtain ⟨i0, hi, hz0, hz1, hz2⟩ := info_parts Try.info8
  obtain ⟨a, cap, rfl, hcl, hcm, hca⟩ := h8.form
  obtain ⟨ao, capo, rfl, hclo, hcmo, hcao⟩ := h9.form
  rw [by8_len] at h6 hcl h8
  rw [by8_len] at h7 hclo h9
  have H8 := Lib.hid h8
  have H9 := Lib.hid h9
  have Hi := Lib.hid hi
  have Hz0 := Lib.hid hz0
  have Hz1 := Lib.hid hz1
  have Hz2 := Lib.hid hz2
  have H3 := Lib.hid h3
  clear h8 h9 hi hz0 hz1 hz2 h3 hca hcao
  go_enter Try.func8, Try.ntmps8
  go_wp2_with (at_builtin; go_must (refine wpList_append_mine _ rfl (.tmp 14) (.tmp 17) 25 rfl 5 i0 (.int .u8 0) 1 Try.underlying25 Hi.out Hz0.out Hz1.out Hz2.out rfl c (3 * i + 2) B (.slice ao outs.length capo) (by8 outs) outs.length (by8_len _) rfl (H9.out.alloc _) (by simp; omega) (some ⟨w.heap.size, 0, none⟩) 1 1 [.int .u8 (b % 256)] rfl (src_one _ _ _ rfl) (by unfold maxLen; omega) (by omega) ?_; intro a' cap' w' c' ho hst; have g1 : w'.cell? ⟨u, 1, none⟩ = some (.slice ao outs.length capo) := (hst.cell (p := ⟨u, 1, none⟩) (by simp; omega) (by show ¬ c u = _; rw [H3.out]; omega)).trans ((cell_old _ _ _ _ h2).trans h7); have g2 : w'.frozen? ⟨u, 1, none⟩ = false := (hst.frozen (p := ⟨u, 1, none⟩) (by simp; omega) (by show ¬ c u = _; rw [H3.out]; omega)).trans ((frozen_old _ _ _ _ h2).trans h5); have Ho := Lib.hid ho; have Hst := Lib.hid hst; clear ho hst))
  go_ret
  have hst := Hst.out
  have ho := Ho.out
  rw [by8_snoc] at ho
  exact ⟨rfl, c', ua_put' Hu.out (((Stp.refl B _ w c).alloc _).trans hst) ho⟩
theorem store_48 (w : World) (c : Nat → Nat) (i B u : Nat) (ins outs : List Int) (off b : Int) (h : UA w c i B u ins outs) (ho : off = 4 ∨ off = 8) :
    Calls Try.prog 8 #[.pointer (some ⟨u, 0, none⟩), .int .i64 off, .int .i64 b] w fun e w' => e = .returned (.bool true) ∧ ∃ c', UA w' c' i B u (ins) (outs) ∧ Stp B (fun d => d / 3 = i) w c w' c' := by
  rcases ho with rfl | rfl
  all_goals
    go_enter Try.func8, Try.ntmps8
    go_wp2_with fail
    go_ret
    exact ⟨rfl, c, h, Stp.refl _ _ _ _⟩
theorem store_no (w : World) (c : Nat → Nat) (i B u : Nat) (ins outs : List Int) (off b : Int) (h : UA w c i B u ins outs) (h0 : off ≠ 0) (h4 : off ≠ 4) (h8 : off ≠ 8) :
    Calls Try.prog 8 #[.pointer (some ⟨u, 0, none⟩), .int .i64 off, .int .i64 b] w fun e w' => e = .returned (.bool false) ∧ ∃ c', UA w' c' i B u (ins) (outs) ∧ Stp B (fun d => d / 3 = i) w c w' c' := by
  have Hu := Lib.hid h
  clear h
  go_enter Try.func8, Try.ntmps8
  go_wp2_with fail
  go_ret
  exact ⟨rfl, c, Hu.out, Stp.refl _ _ _ _⟩
theorem waiting_any (w : World) (c : Nat → Nat) (i B u : Nat) (ins outs : List Int) (h : UA w c i B u ins outs) (_hl : ins.length ≤ 1000) :
    Calls Try.prog 10 #[.pointer (some ⟨u, 0, none⟩)] w fun e w' => e = .returned (.int .i64 ins.length) ∧ w = w' := by
  have Hu := Lib.hid h
  obtain ⟨h1, h2, h3, h4, h5, vi, vo, h6, h7, h8, h9⟩ := h
  obtain ⟨i0, hi, hz0, hz1, hz2⟩ := info_parts Try.info8
  obtain ⟨a, cap, rfl, hcl, hcm, hca⟩ := h8.form
  obtain ⟨ao, capo, rfl, hclo, hcmo, hcao⟩ := h9.form
  rw [by8_len] at h6 hcl h8
  rw [by8_len] at h7 hclo h9
  have H8 := Lib.hid h8
  have H9 := Lib.hid h9
  have Hi := Lib.hid hi
  have Hz0 := Lib.hid hz0
  have Hz1 := Lib.hid hz1
  have Hz2 := Lib.hid hz2
  have H3 := Lib.hid h3
  clear h8 h9 hi hz0 hz1 hz2 h3 hca hcao
  go_enter Try.func10, Try.ntmps10
  go_wp2_with fail
  go_ret
  exact ⟨rfl, rfl⟩
theorem count_any (w : World) (c : Nat → Nat) (i B u : Nat) (ins outs : List Int) (h : UA w c i B u ins outs) (_hl : ins.length ≤ 1000) :
    Calls Try.prog 17 #[.pointer (some ⟨u, 0, none⟩)] w fun e w' => e = .returned (.int .i64 ins.length) ∧ w = w' := by
  have Hu := Lib.hid h
  obtain ⟨h1, h2, h3, h4, h5, vi, vo, h6, h7, h8, h9⟩ := h
  obtain ⟨i0, hi, hz0, hz1, hz2⟩ := info_parts Try.info8
  obtain ⟨a, cap, rfl, hcl, hcm, hca⟩ := h8.form
  obtain ⟨ao, capo, rfl, hclo, hcmo, hcao⟩ := h9.form
  rw [by8_len] at h6 hcl h8
  rw [by8_len] at h7 hclo h9
  have H8 := Lib.hid h8
  have H9 := Lib.hid h9
  have Hi := Lib.hid hi
  have Hz0 := Lib.hid hz0
  have Hz1 := Lib.hid hz1
  have Hz2 := Lib.hid hz2
  have H3 := Lib.hid h3
  clear h8 h9 hi hz0 hz1 hz2 h3 hca hcao
  go_enter Try.func17, Try.ntmps17
  go_wp2_with fail
  go_ret
  exact ⟨rfl, rfl⟩
theorem first_nil (w : World) (c : Nat → Nat) (i B u : Nat) (ins outs : List Int) (h : UA w c i B u ins outs) (hl : ins = []) :
    Calls Try.prog 16 #[.pointer (some ⟨u, 0, none⟩)] w fun e w' => e = .returned (.int .i64 4294967295) ∧ ∃ c', UA w' c' i B u (ins) (outs) ∧ Stp B (fun d => d / 3 = i) w c w' c' := by
  subst hl
  have Hu := Lib.hid h
  obtain ⟨h1, h2, h3, h4, h5, vi, vo, h6, h7, h8, h9⟩ := h
  obtain ⟨i0, hi, hz0, hz1, hz2⟩ := info_parts Try.info8
  obtain ⟨a, cap, rfl, hcl, hcm, hca⟩ := h8.form
  obtain ⟨ao, capo, rfl, hclo, hcmo, hcao⟩ := h9.form
  rw [by8_len] at h6 hcl h8
  rw [by8_len] at h7 hclo h9
  have H8 := Lib.hid h8
  have H9 := Lib.hid h9
  have Hi := Lib.hid hi
  have Hz0 := Lib.hid hz0
  have Hz1 := Lib.hid hz1
  have Hz2 := Lib.hid hz2
  have H3 := Lib.hid h3
  clear h8 h9 hi hz0 hz1 hz2 h3 hca hcao
  go_enter Try.func16, Try.ntmps16
  go_wp2_with fail
  go_ret
  exact ⟨rfl, c, Hu.out, Stp.refl _ _ _ _⟩
theorem clear_any (w : World) (c : Nat → Nat) (i B u : Nat) (ins outs : List Int) (h : UA w c i B u ins outs) :
    Calls Try.prog 14 #[.pointer (some ⟨u, 0, none⟩)] w fun e w' => e = .returned (.tuple #[]) ∧ ∃ c', UA w' c' i B u [] outs ∧ Stp B (fun d => d / 3 = i) w c w' c' := by
  have Hu := Lib.hid h
  obtain ⟨h1, h2, h3, h4, h5, vi, vo, h6, h7, h8, h9⟩ := h
  obtain ⟨i0, hi, hz0, hz1, hz2⟩ := info_parts Try.info8
  obtain ⟨a, cap, rfl, hcl, hcm, hca⟩ := h8.form
  obtain ⟨ao, capo, rfl, hclo, hcmo, hcao⟩ := h9.form
  rw [by8_len] at h6 hcl h8
  rw [by8_len] at h7 hclo h9
  have H8 := Lib.hid h8
  have H9 := Lib.hid h9
  have Hi := Lib.hid hi
  have Hz0 := Lib.hid hz0
  have Hz1 := Lib.hid hz1
  have Hz2 := Lib.hid hz2
  have H3 := Lib.hid h3
  clear h8 h9 hi hz0 hz1 hz2 h3 hca hcao
  go_enter Try.func14, Try.ntmps14
  go_wp2_with fail
  go_end0
  exact ⟨rfl, c, ua_put Hu.out (Stp.refl B _ w c) (Own.nil _ _ _ _)⟩
theorem own_tail {w : World} {c : Nat → Nat} {d B b off n cap : Nat} {x : Value} {xs : List Value} (h : Own w c d B (.slice (some ⟨b, off, none⟩) (n + 1) cap) (x :: xs)) :
    Own w c d B (.slice (some ⟨b, off + 1, none⟩) n (cap - 1)) xs ∧ (cap = 1 → n = 0 ∧ Own w c d B (.slice (some ⟨b, off, none⟩) 0 0) xs) := by
  rcases h with ⟨h, _⟩ | ⟨b', off', cap', hv, h2, h3, h4, h5, h6, h7, h8, h9⟩
  · cases h
  · simp only [List.length_cons] at hv h5
    injection hv with e1 e2 e3
    injection e1 with e1
    injection e1 with e1 e4
    subst e1 e4 e3
    have hn : xs.length = n := by omega
    refine ⟨.inr ⟨b, off + 1, cap - 1, by rw [hn], h2, h3, h4, by omega, by omega, fun j u hj => ?_, fun j hj => ?_, fun j hj => ?_⟩, fun hc => ?_⟩
    · have := h7 (j + 1) u (by simpa using hj); rwa [show off + (j + 1) = off + 1 + j by omega] at this
    · have := h8 (j + 1) (by omega); rwa [show off + (j + 1) = off + 1 + j by omega] at this
    · have := h9 (j + 1) (by omega); rwa [show off + (j + 1) = off + 1 + j by omega] at this
    · have h0 : xs.length = 0 := by omega
      obtain rfl : xs = [] := List.eq_nil_of_length_eq_zero h0
      exact ⟨by omega, .inr ⟨b, off, 0, rfl, h2, h3, h4, by simp, by simp [maxLen], fun j u hj => by simp at hj, fun j hj => by omega, fun j hj => by omega⟩⟩
theorem first_cons (w : World) (c : Nat → Nat) (i B u : Nat) (ins outs : List Int) (x : Int) (hx : 0 ≤ x ∧ x ≤ 255) (h : UA w c i B u (x :: ins) outs) (_hl : ins.length ≤ 1000) :
    Calls Try.prog 16 #[.pointer (some ⟨u, 0, none⟩)] w fun e w' => e = .returned (.int .i64 x) ∧ ∃ c', UA w' c' i B u ins outs ∧ Stp B (fun d => d / 3 = i) w c w' c' := by
  have Hu := Lib.hid h
  obtain ⟨h1, h2, h3, h4, h5, vi, vo, h6, h7, h8, h9⟩ := h
  have h8' := h8
  rcases h8' with ⟨_, h8'⟩ | ⟨b, off, cap, rfl, g2, g3, g4, g5, g6, g7, g8, g9⟩
  · cases h8'
  · have hln : (by8 (x :: ins)).length = ins.length + 1 := by rw [by8_len]; rfl
    rw [hln] at h6 g5 h8
    have gx : w.cell? ⟨b, off, none⟩ = some (.int .u8 x) := g7 0 _ rfl
    obtain ⟨t1, t2⟩ := own_tail h8
    have T1 := Lib.hid t1
    have T2 := Lib.hid t2
    clear t1 t2 h8 h9 g2 g3 g7 g8 g9 h3 h5 h7 hln
    by_cases hc : cap = 1
    · obtain ⟨hn, ht⟩ := T2.out hc
      have T3 := Lib.hid ht
      clear ht
      obtain rfl : ins = [] := List.eq_nil_of_length_eq_zero hn
      subst hc
      go_enter Try.func16, Try.ntmps16
      go_wp2_with fail
      go_ret
      exact ⟨rfl, c, ua_put Hu.out (Stp.refl B _ w c) T3.out⟩
    · have hc' : 1 < cap := by omega
      go_enter Try.func16, Try.ntmps16
      go_wp2_with fail
      go_ret
      exact ⟨rfl, c, ua_put Hu.out (Stp.refl B _ w c) T1.out⟩
end Go.Proofs.Ytfhgdhkadhhjoaa
