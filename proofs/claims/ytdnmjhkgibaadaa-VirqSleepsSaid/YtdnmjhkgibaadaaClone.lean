/- slices.Clone of bytes and of numbers: a slice of the call's own that holds the same; nil of nil. Conditions: the source reads as a list (Src), shorter than 100001. -/
import Derived.Test.YtdnmjhkgibaadaaRows
import Derived.Test.YtdnmjhkgibaadaaOwn
import Derived.WalkKit
import Derived.WalkLawsBesides
import Derived.WalkSpells
import Derived.Lib.Hide
namespace Go.Proofs.Ytdnmjhkgibaadaa
open Go.RowKit
theorem Try.infoC8 : (Try.prog.info? 5).map (fun i => (i.zero, i.size, i.bytes)) = some (some (.int .u8 0), 1, 1) := by kernel_rfl
theorem clone8 (w : World) (c : Nat → Nat) (d B : Nat) (A : Option Addr) (n cap : Nat) (xs : List Value) (hB : B ≤ w.heap.size) (hs : Src w A n xs) (hnil : A = none → cap = 0) (hl : n ≤ 100000) :
    Calls Try.prog 30 #[.slice A n cap] w (NewP w c d B n xs) := by
  obtain ⟨i0, hi, hz0, hz1, hz2⟩ := info_parts Try.infoC8
  have Hi := Lib.hid hi
  have Hz0 := Lib.hid hz0
  have Hz1 := Lib.hid hz1
  have Hz2 := Lib.hid hz2
  have Hs := Lib.hid hs
  clear hi hz0 hz1 hz2 hs
  rcases A with _ | ad
  · obtain rfl := hnil rfl
    have hn : n = 0 := by
      rcases Nat.eq_zero_or_pos n with h | h
      · exact h
      · exact absurd rfl (Hs.out.2.2.1 h)
    subst hn
    have hx : xs = [] := List.eq_nil_of_length_eq_zero Hs.out.1
    have heq := Lib.run_eql_slice_nil (P := Try.prog) w 25 5 none 0 0 0 0 Try.underlying25
    have Hx := Lib.hid hx
    clear hx
    go_enter Try.func30, Try.ntmps30
    go_wp2_with fail
    go_ret
    rw [Hx.out]
    exact ⟨none, 0, c, rfl, Own.nil _ _ _ _, Stp.refl _ _ _ _⟩
  · have heq := Lib.run_eql_slice_nil (P := Try.prog) w 25 5 (some ad) n cap 0 0 Try.underlying25
    go_enter Try.func30, Try.ntmps30
    go_wp2_with (at_builtin; go_must (refine wpList_append_mine _ rfl (.tmp 5) (.tmp 6) 25 rfl 5 i0 (.int .u8 0) 1 Try.underlying25 Hi.out Hz0.out Hz1.out Hz2.out rfl (fun k => if k < w.heap.size then 1 else 0) 0 B (.slice (some ⟨w.heap.size, 0, none⟩) 0 0) [] 0 rfl rfl (Own.empty _ _ _ _ _ hB (by simp)) (by simp; omega) (some ad) n cap xs rfl (Hs.out.alloc _) (by unfold maxLen; omega) (by omega) ?_; intro a' cap' w' c' ho hst; have Ho := Lib.hid ho; have Hst := Lib.hid hst; clear ho hst))
    go_ret
    have hst := Hst.out
    have ho := Ho.out
    rw [Nat.zero_add] at ho
    rw [List.nil_append] at ho
    refine ⟨a', cap', (fun k => if k < w.heap.size then c k else d), by simp, ho.recolour (fun k h0 _ => ?_), ?_⟩
    · by_cases hk : k < w.heap.size
      · rw [hst.col k (by simp; omega), if_pos hk] at h0; cases h0
      · exact if_neg hk
    · refine ⟨hst.os, hst.tape, hst.output, Nat.le_trans (by simp) hst.size, fun k hk => if_pos hk, fun k hk _ => ?_⟩
      rw [hst.block k (by simp; omega) (.inr (by simp [hk]))]
      exact Below.heap_alloc w _ k hk
theorem Try.infoC64 : (Try.prog.info? 3).map (fun i => (i.zero, i.size, i.bytes)) = some (some (.int .i64 0), 1, 8) := by kernel_rfl
theorem clone64 (w : World) (c : Nat → Nat) (d B : Nat) (A : Option Addr) (n cap : Nat) (xs : List Value) (hB : B ≤ w.heap.size) (hs : Src w A n xs) (hnil : A = none → cap = 0) (hl : n ≤ 100000) :
    Calls Try.prog 29 #[.slice A n cap] w (NewP w c d B n xs) := by
  obtain ⟨i0, hi, hz0, hz1, hz2⟩ := info_parts Try.infoC64
  have Hi := Lib.hid hi
  have Hz0 := Lib.hid hz0
  have Hz1 := Lib.hid hz1
  have Hz2 := Lib.hid hz2
  have Hs := Lib.hid hs
  clear hi hz0 hz1 hz2 hs
  rcases A with _ | ad
  · obtain rfl := hnil rfl
    have hn : n = 0 := by
      rcases Nat.eq_zero_or_pos n with h | h
      · exact h
      · exact absurd rfl (Hs.out.2.2.1 h)
    subst hn
    have hx : xs = [] := List.eq_nil_of_length_eq_zero Hs.out.1
    have heq := Lib.run_eql_slice_nil (P := Try.prog) w 41 3 none 0 0 0 0 Try.underlying41
    have Hx := Lib.hid hx
    clear hx
    go_enter Try.func29, Try.ntmps29
    go_wp2_with fail
    go_ret
    rw [Hx.out]
    exact ⟨none, 0, c, rfl, Own.nil _ _ _ _, Stp.refl _ _ _ _⟩
  · have heq := Lib.run_eql_slice_nil (P := Try.prog) w 41 3 (some ad) n cap 0 0 Try.underlying41
    go_enter Try.func29, Try.ntmps29
    go_wp2_with (at_builtin; go_must (refine wpList_append_mine _ rfl (.tmp 5) (.tmp 6) 41 rfl 3 i0 (.int .i64 0) 8 Try.underlying41 Hi.out Hz0.out Hz1.out Hz2.out rfl (fun k => if k < w.heap.size then 1 else 0) 0 B (.slice (some ⟨w.heap.size, 0, none⟩) 0 0) [] 0 rfl rfl (Own.empty _ _ _ _ _ hB (by simp)) (by simp; omega) (some ad) n cap xs rfl (Hs.out.alloc _) (by unfold maxLen; omega) (by omega) ?_; intro a' cap' w' c' ho hst; have Ho := Lib.hid ho; have Hst := Lib.hid hst; clear ho hst))
    go_ret
    have hst := Hst.out
    have ho := Ho.out
    rw [Nat.zero_add] at ho
    rw [List.nil_append] at ho
    refine ⟨a', cap', (fun k => if k < w.heap.size then c k else d), by simp, ho.recolour (fun k h0 _ => ?_), ?_⟩
    · by_cases hk : k < w.heap.size
      · rw [hst.col k (by simp; omega), if_pos hk] at h0; cases h0
      · exact if_neg hk
    · refine ⟨hst.os, hst.tape, hst.output, Nat.le_trans (by simp) hst.size, fun k hk => if_pos hk, fun k hk _ => ?_⟩
      rw [hst.block k (by simp; omega) (.inr (by simp [hk]))]
      exact Below.heap_alloc w _ k hk
end Go.Proofs.Ytdnmjhkgibaadaa
