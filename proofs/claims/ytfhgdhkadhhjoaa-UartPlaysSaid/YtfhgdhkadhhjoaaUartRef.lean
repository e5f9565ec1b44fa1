/- What Out does, and all the methods of the reference's serial line: contracts. Conditions: the line lies in memory of the call's own (UA), and holds few bytes. -/
import Derived.Test.YtfhgdhkadhhjoaaUartLoad
import Derived.Test.YtfhgdhkadhhjoaaClone
namespace Go.Proofs.Ytfhgdhkadhhjoaa
open Go.RowKit

theorem own_nil_cap {w : World} {c : Nat → Nat} {d B : Nat} {A : Option Addr} {n cap : Nat} {xs : List Value} (h : Own w c d B (.slice A n cap) xs) (hA : A = none) : cap = 0 := by
  subst hA
  rcases h with ⟨h, _⟩ | ⟨_, _, _, h, _⟩
  · injection h
  · injection h with h; cases h
theorem out_any (w : World) (c : Nat → Nat) (i B u : Nat) (ins outs : List Int) (d : Nat) (hB : B ≤ w.heap.size) (h : UA w c i B u ins outs) (hl : outs.length ≤ 100000) :
    Calls Try.prog 9 #[.pointer (some ⟨u, 0, none⟩)] w (NewP w c d B outs.length (by8 outs)) := by
  have Hu := Lib.hid h
  obtain ⟨h1, h2, h3, h4, h5, vi, vo, h6, h7, h8, h9⟩ := h
  obtain ⟨i0, hi, hz0, hz1, hz2⟩ := info_parts Try.info8
  obtain ⟨a, cap, rfl, hcl, hcm, hca⟩ := h8.form
  obtain ⟨ao, capo, rfl, hclo, hcmo, hcao⟩ := h9.form
  rw [by8_len] at h6 hcl h8
  rw [by8_len] at h7 hclo h9
  have H8 := Lib.hid h8
  have H9 := Lib.hid h9
  have Hi := Lib.hid hi
  have Hz0 := Lib.hid hz0
  have Hz1 := Lib.hid hz1
  have Hz2 := Lib.hid hz2
  have H3 := Lib.hid h3
  clear h8 h9 hi hz0 hz1 hz2 h3 hca hcao
  go_enter Try.func9, Try.ntmps9
  go_wp2_with (go_at_call 18; refine (clone8 _ c d B _ _ _ (by8 outs) hB (own_src H9.out (by8_one _)) (own_nil_cap H9.out) hl).mono ?_; rintro e w' ⟨a', cap', c', rfl, ho, hst⟩; have Ho := Lib.hid ho; have Hst := Lib.hid hst; clear ho hst)
  go_ret
  exact ⟨a', cap', c', rfl, Ho.out, Hst.out⟩
set_option maxHeartbeats 1000000 in
theorem rin_yes (w : World) (c : Nat → Nat) (i B u : Nat) (ins outs : List Int) (b : Int) (hB : B ≤ w.heap.size) (h : UA w c i B u ins outs) (hl : ins.length < 16) :
    Calls Try.prog 11 #[.pointer (some ⟨u, 0, none⟩), .int .i64 b] w fun e w' => e = .returned (.bool true) ∧ ∃ c', UA w' c' i B u (ins ++ [b % 256]) (outs) ∧ Stp B (fun d => d / 3 = i) w c w' c' := by
  have hb := and_255 b
  have Hu := Lib.hid h
  obtain ⟨h1, h2, h3, h4, h5, vi, vo, h6, h7, h8, h9⟩ := h
  obtain ⟨i0, hi, hz0, hz1, hz2⟩ := info_parts Try.info8
  obtain ⟨a, cap, rfl, hcl, hcm, hca⟩ := h8.form
  obtain ⟨ao, capo, rfl, hclo, hcmo, hcao⟩ := h9.form
  rw [by8_len] at h6 hcl h8
  rw [by8_len] at h7 hclo h9
  have H8 := Lib.hid h8
  have H9 := Lib.hid h9
  have Hi := Lib.hid hi
  have Hz0 := Lib.hid hz0
  have Hz1 := Lib.hid hz1
  have Hz2 := Lib.hid hz2
  have H3 := Lib.hid h3
  clear h8 h9 hi hz0 hz1 hz2 h3 hca hcao
  go_enter Try.func11, Try.ntmps11
  go_wp2_with (first | (at_builtin; refine wpList_append_mine _ rfl (.const (.slice none 0 0)) (.tmp 15) 25 rfl 5 i0 (.int .u8 0) 1 Try.underlying25 Hi.out Hz0.out Hz1.out Hz2.out rfl c (3 * i + 1) B (.slice none 0 0) [] 0 rfl rfl (Own.nil _ _ _ _) hB a ins.length cap (by8 ins) rfl (own_src H8.out (by8_one _)) (by unfold maxLen; omega) (by omega) ?_; intro a1 cap1 w1 c1 ho1 hst1; rw [Nat.zero_add, List.nil_append] at ho1; have Ho1 := Lib.hid ho1; have Hst1 := Lib.hid hst1; have hsz1 := hst1.size; clear ho1 hst1) | (at_builtin; go_must (refine wpList_append_mine _ rfl (.tmp 16) (.tmp 20) 25 rfl 5 i0 (.int .u8 0) 1 Try.underlying25 Hi.out Hz0.out Hz1.out Hz2.out rfl c1 (3 * i + 1) B (.slice a1 ins.length cap1) (by8 ins) ins.length (by8_len _) rfl (Ho1.out.alloc _) (by simp; omega) (some ⟨w1.heap.size, 0, none⟩) 1 1 [.int .u8 (b % 256)] rfl (src_one _ _ _ rfl) (by unfold maxLen; omega) (by omega) ?_; intro a' cap' w' c' ho hst; have g1 : w'.cell? ⟨u, 0, none⟩ = some (.slice a ins.length cap) := (hst.cell (p := ⟨u, 0, none⟩) (by simp; omega) (by show ¬ c1 u = _; rw [Hst1.out.col u h2, H3.out]; omega)).trans ((cell_old _ _ _ _ (by omega)).trans ((Hst1.out.cell (p := ⟨u, 0, none⟩) h2 (by show ¬ c u = _; rw [H3.out]; omega)).trans h6)); have g2 : w'.frozen? ⟨u, 0, none⟩ = false := (hst.frozen (p := ⟨u, 0, none⟩) (by simp; omega) (by show ¬ c1 u = _; rw [Hst1.out.col u h2, H3.out]; omega)).trans ((frozen_old _ _ _ _ (by omega)).trans ((Hst1.out.frozen (p := ⟨u, 0, none⟩) h2 (by show ¬ c u = _; rw [H3.out]; omega)).trans h4)); have Ho := Lib.hid ho; have Hst := Lib.hid hst; clear ho hst)))
  go_ret
  have hst := Hst.out
  have ho := Ho.out
  rw [by8_snoc] at ho
  exact ⟨rfl, c', ua_put Hu.out (Hst1.out.trans (((Stp.refl B _ w1 c1).alloc _).trans hst)) ho⟩
theorem rin_no (w : World) (c : Nat → Nat) (i B u : Nat) (ins outs : List Int) (b : Int) (h : UA w c i B u ins outs) (hl : 16 ≤ ins.length) :
    Calls Try.prog 11 #[.pointer (some ⟨u, 0, none⟩), .int .i64 b] w fun e w' => e = .returned (.bool false) ∧ ∃ c', UA w' c' i B u (ins) (outs) ∧ Stp B (fun d => d / 3 = i) w c w' c' := by
  have Hu := Lib.hid h
  obtain ⟨h1, h2, h3, h4, h5, vi, vo, h6, h7, h8, h9⟩ := h
  obtain ⟨i0, hi, hz0, hz1, hz2⟩ := info_parts Try.info8
  obtain ⟨a, cap, rfl, hcl, hcm, hca⟩ := h8.form
  obtain ⟨ao, capo, rfl, hclo, hcmo, hcao⟩ := h9.form
  rw [by8_len] at h6 hcl h8
  rw [by8_len] at h7 hclo h9
  have H8 := Lib.hid h8
  have H9 := Lib.hid h9
  have Hi := Lib.hid hi
  have Hz0 := Lib.hid hz0
  have Hz1 := Lib.hid hz1
  have Hz2 := Lib.hid hz2
  have H3 := Lib.hid h3
  clear h8 h9 hi hz0 hz1 hz2 h3 hca hcao
  go_enter Try.func11, Try.ntmps11
  go_wp2_with fail
  go_ret
  exact ⟨rfl, c, Hu.out, Stp.refl _ _ _ _⟩
theorem rload_0 (w : World) (c : Nat → Nat) (i B u : Nat) (ins outs : List Int) (h : UA w c i B u ins outs) :
    Calls Try.prog 12 #[.pointer (some ⟨u, 0, none⟩), .int .i64 0] w fun e w' => e = .returned (.tuple #[.int .i64 0, .bool true]) ∧ ∃ c', UA w' c' i B u (ins) (outs) ∧ Stp B (fun d => d / 3 = i) w c w' c' := by
  have Hu := Lib.hid h
  clear h
  go_enter Try.func12, Try.ntmps12
  go_wp2_with fail
  go_ret2
  exact ⟨rfl, c, Hu.out, Stp.refl _ _ _ _⟩
theorem rload_8 (w : World) (c : Nat → Nat) (i B u : Nat) (ins outs : List Int) (h : UA w c i B u ins outs) (_hl : ins.length ≤ 1000) :
    Calls Try.prog 12 #[.pointer (some ⟨u, 0, none⟩), .int .i64 8] w fun e w' => e = .returned (.tuple #[.int .i64 ins.length, .bool true]) ∧ ∃ c', UA w' c' i B u (ins) (outs) ∧ Stp B (fun d => d / 3 = i) w c w' c' := by
  have Hu := Lib.hid h
  obtain ⟨h1, h2, h3, h4, h5, vi, vo, h6, h7, h8, h9⟩ := h
  obtain ⟨i0, hi, hz0, hz1, hz2⟩ := info_parts Try.info8
  obtain ⟨a, cap, rfl, hcl, hcm, hca⟩ := h8.form
  obtain ⟨ao, capo, rfl, hclo, hcmo, hcao⟩ := h9.form
  rw [by8_len] at h6 hcl h8
  rw [by8_len] at h7 hclo h9
  have H8 := Lib.hid h8
  have H9 := Lib.hid h9
  have Hi := Lib.hid hi
  have Hz0 := Lib.hid hz0
  have Hz1 := Lib.hid hz1
  have Hz2 := Lib.hid hz2
  have H3 := Lib.hid h3
  clear h8 h9 hi hz0 hz1 hz2 h3 hca hcao
  go_enter Try.func12, Try.ntmps12
  go_wp2_with fail
  go_ret2
  exact ⟨rfl, c, Hu.out, Stp.refl _ _ _ _⟩
theorem rload_no (w : World) (c : Nat → Nat) (i B u : Nat) (ins outs : List Int) (off : Int) (h : UA w c i B u ins outs) (h0 : off ≠ 0) (h4 : off ≠ 4) (h8 : off ≠ 8) :
    Calls Try.prog 12 #[.pointer (some ⟨u, 0, none⟩), .int .i64 off] w fun e w' => e = .returned (.tuple #[.int .i64 0, .bool false]) ∧ ∃ c', UA w' c' i B u (ins) (outs) ∧ Stp B (fun d => d / 3 = i) w c w' c' := by
  have Hu := Lib.hid h
  clear h
  go_enter Try.func12, Try.ntmps12
  go_wp2_with fail
  go_ret2
  exact ⟨rfl, c, Hu.out, Stp.refl _ _ _ _⟩
theorem rload_4n (w : World) (c : Nat → Nat) (i B u : Nat) (ins outs : List Int) (h : UA w c i B u ins outs) (hl : ins = []) :
    Calls Try.prog 12 #[.pointer (some ⟨u, 0, none⟩), .int .i64 4] w fun e w' => e = .returned (.tuple #[.int .i64 4294967295, .bool true]) ∧ ∃ c', UA w' c' i B u (ins) (outs) ∧ Stp B (fun d => d / 3 = i) w c w' c' := by
  subst hl
  have Hu := Lib.hid h
  obtain ⟨h1, h2, h3, h4, h5, vi, vo, h6, h7, h8, h9⟩ := h
  obtain ⟨i0, hi, hz0, hz1, hz2⟩ := info_parts Try.info8
  obtain ⟨a, cap, rfl, hcl, hcm, hca⟩ := h8.form
  obtain ⟨ao, capo, rfl, hclo, hcmo, hcao⟩ := h9.form
  rw [by8_len] at h6 hcl h8
  rw [by8_len] at h7 hclo h9
  have H8 := Lib.hid h8
  have H9 := Lib.hid h9
  have Hi := Lib.hid hi
  have Hz0 := Lib.hid hz0
  have Hz1 := Lib.hid hz1
  have Hz2 := Lib.hid hz2
  have H3 := Lib.hid h3
  clear h8 h9 hi hz0 hz1 hz2 h3 hca hcao
  go_enter Try.func12, Try.ntmps12
  go_wp2_with fail
  go_ret2
  exact ⟨rfl, c, Hu.out, Stp.refl _ _ _ _⟩
theorem rload_4c (w : World) (c : Nat → Nat) (i B u : Nat) (ins outs : List Int) (x : Int) (hx : 0 ≤ x ∧ x ≤ 255) (h : UA w c i B u (x :: ins) outs) (_hl : ins.length ≤ 1000) :
    Calls Try.prog 12 #[.pointer (some ⟨u, 0, none⟩), .int .i64 4] w fun e w' => e = .returned (.tuple #[.int .i64 x, .bool true]) ∧ ∃ c', UA w' c' i B u (ins) (outs) ∧ Stp B (fun d => d / 3 = i) w c w' c' := by
  have Hu := Lib.hid h
  obtain ⟨h1, h2, h3, h4, h5, vi, vo, h6, h7, h8, h9⟩ := h
  have h8' := h8
  rcases h8' with ⟨_, h8'⟩ | ⟨b, off, cap, rfl, g2, g3, g4, g5, g6, g7, g8, g9⟩
  · cases h8'
  · have hln : (by8 (x :: ins)).length = ins.length + 1 := by rw [by8_len]; rfl
    rw [hln] at h6 g5 h8
    have gx : w.cell? ⟨b, off, none⟩ = some (.int .u8 x) := g7 0 _ rfl
    obtain ⟨t1, t2⟩ := own_tail h8
    have T1 := Lib.hid t1
    have T2 := Lib.hid t2
    clear t1 t2 h8 h9 g2 g3 g7 g8 g9 h3 h5 h7 hln
    by_cases hc : cap = 1
    · obtain ⟨hn, ht⟩ := T2.out hc
      have T3 := Lib.hid ht
      clear ht
      obtain rfl : ins = [] := List.eq_nil_of_length_eq_zero hn
      subst hc
      go_enter Try.func12, Try.ntmps12
      go_wp2_with fail
      go_ret2
      exact ⟨rfl, c, ua_put Hu.out (Stp.refl B _ w c) T3.out⟩
    · have hc' : 1 < cap := by omega
      go_enter Try.func12, Try.ntmps12
      go_wp2_with fail
      go_ret2
      exact ⟨rfl, c, ua_put Hu.out (Stp.refl B _ w c) T1.out⟩
theorem rstore_0 (w : World) (c : Nat → Nat) (i B u : Nat) (ins outs : List Int) (b : Int) (hB : B ≤ w.heap.size) (h : UA w c i B u ins outs) (hl : outs.length < 100000) :
    Calls Try.prog 13 #[.pointer (some ⟨u, 0, none⟩), .int .i64 0, .int .i64 b] w fun e w' => e = .returned (.bool true) ∧ ∃ c', UA w' c' i B u (ins) (outs ++ [b % 256]) ∧ Stp B (fun d => d / 3 = i) w c w' c' := by
  have hb := and_255 b
  have Hu := Lib.hid h
  obtain ⟨h1, h2, h3, h4, h5, vi, vo, h6, h7, h8, h9⟩ := h
  obtain ⟨i0, hi, hz0, hz1, hz2⟩ := info_parts Try.info8
  obtain ⟨a, cap, rfl, hcl, hcm, hca⟩ := h8.form
  obtain ⟨ao, capo, rfl, hclo, hcmo, hcao⟩ := h9.form
  rw [by8_len] at h6 hcl h8
  rw [by8_len] at h7 hclo h9
  have H8 := Lib.hid h8
  have H9 := Lib.hid h9
  have Hi := Lib.hid hi
  have Hz0 := Lib.hid hz0
  have Hz1 := Lib.hid hz1
  have Hz2 := Lib.hid hz2
  have H3 := Lib.hid h3
  clear h8 h9 hi hz0 hz1 hz2 h3 hca hcao
  go_enter Try.func13, Try.ntmps13
  go_wp2_with (at_builtin; go_must (refine wpList_append_mine _ rfl (.tmp 13) (.tmp 17) 25 rfl 5 i0 (.int .u8 0) 1 Try.underlying25 Hi.out Hz0.out Hz1.out Hz2.out rfl c (3 * i + 2) B (.slice ao outs.length capo) (by8 outs) outs.length (by8_len _) rfl (H9.out.alloc _) (by simp; omega) (some ⟨w.heap.size, 0, none⟩) 1 1 [.int .u8 (b % 256)] rfl (src_one _ _ _ rfl) (by unfold maxLen; omega) (by omega) ?_; intro a' cap' w' c' ho hst; have g1 : w'.cell? ⟨u, 1, none⟩ = some (.slice ao outs.length capo) := (hst.cell (p := ⟨u, 1, none⟩) (by simp; omega) (by show ¬ c u = _; rw [H3.out]; omega)).trans ((cell_old _ _ _ _ h2).trans h7); have g2 : w'.frozen? ⟨u, 1, none⟩ = false := (hst.frozen (p := ⟨u, 1, none⟩) (by simp; omega) (by show ¬ c u = _; rw [H3.out]; omega)).trans ((frozen_old _ _ _ _ h2).trans h5); have Ho := Lib.hid ho; have Hst := Lib.hid hst; clear ho hst))
  go_ret
  have hst := Hst.out
  have ho := Ho.out
  rw [by8_snoc] at ho
  exact ⟨rfl, c', ua_put' Hu.out (((Stp.refl B _ w c).alloc _).trans hst) ho⟩
theorem rstore_48 (w : World) (c : Nat → Nat) (i B u : Nat) (ins outs : List Int) (off b : Int) (h : UA w c i B u ins outs) (ho : off = 4 ∨ off = 8) :
    Calls Try.prog 13 #[.pointer (some ⟨u, 0, none⟩), .int .i64 off, .int .i64 b] w fun e w' => e = .returned (.bool true) ∧ ∃ c', UA w' c' i B u (ins) (outs) ∧ Stp B (fun d => d / 3 = i) w c w' c' := by
  rcases ho with rfl | rfl
  all_goals
    go_enter Try.func13, Try.ntmps13
    go_wp2_with fail
    go_ret
    exact ⟨rfl, c, h, Stp.refl _ _ _ _⟩
theorem rstore_no (w : World) (c : Nat → Nat) (i B u : Nat) (ins outs : List Int) (off b : Int) (h : UA w c i B u ins outs) (h0 : off ≠ 0) (h4 : off ≠ 4) (h8 : off ≠ 8) :
    Calls Try.prog 13 #[.pointer (some ⟨u, 0, none⟩), .int .i64 off, .int .i64 b] w fun e w' => e = .returned (.bool false) ∧ ∃ c', UA w' c' i B u (ins) (outs) ∧ Stp B (fun d => d / 3 = i) w c w' c' := by
  have Hu := Lib.hid h
  clear h
  have b0 : (off == 0) = false := by simp [h0]
  have b4 : (off == 4) = false := by simp [h4]
  have b8 : (off == 8) = false := by simp [h8]
  clear h0 h4 h8
  go_enter Try.func13, Try.ntmps13
  go_wp2_with fail
  go_ret
  exact ⟨rfl, c, Hu.out, Stp.refl _ _ _ _⟩
end Go.Proofs.Ytfhgdhkadhhjoaa
