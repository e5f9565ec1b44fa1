/- trunnionref1.SameInts and SameState of two that read the same; how big a state is: contracts. -/
import Derived.Test.YtdnmjhkgibaadaaBox
import Derived.WalkKit
import Derived.WalkLawsBesides
import Derived.WalkSpells
import Derived.LoopTactic
import Derived.Deep.QuietTactic
import Derived.BigQuiet
import Derived.Outline
import Derived.Lib.Hide
import Derived.Test.YtdnmjhkgibaadaaRows
namespace Go.Proofs.Ytdnmjhkgibaadaa
open Go.RowKit

set_option maxHeartbeats 1000000 in
theorem sameInts_true (w : World) (A A' : Option Addr) (n ca cb : Nat) (f : Nat → Int) (h : IntsAt w A n f) (h' : IntsAt w A' n f) (hn : n ≤ 100000) :
    Calls Try.prog 20 #[.slice A n ca, .slice A' n cb] w fun e w' => e = .returned (.bool true) ∧ ∃ m, w' = w.drewN m := by
  have hnn : ((n : Int) != (n : Int)) = false := by simp
  by_cases h0 : 0 < n
  · obtain ⟨b, off, rfl, _⟩ := h 0 h0
    obtain ⟨b', off', rfl, _⟩ := h' 0 h0
    have H : Hid (∀ k, k < n → w.cell? ⟨b, off + k, none⟩ = some (.int .i64 (f k)) ∧ w.cell? ⟨b', off' + k, none⟩ = some (.int .i64 (f k))) := Lib.hid fun k hk => by
      obtain ⟨b1, o1, e1, c1⟩ := h k hk
      obtain ⟨b2, o2, e2, c2⟩ := h' k hk
      injection e1 with e1
      injection e1 with e1 e1'
      injection e2 with e2
      injection e2 with e2 e2'
      subst e1 e1' e2 e2'
      exact ⟨c1, c2⟩
    clear h h'
    go_enter Try.func20, Try.ntmps20
    go_wp2
    go_loopw [5] (fun i wr => ∃ k m : Nat, k ≤ n ∧ i = .int .i64 k ∧ wr = w.drewN m) (fun i _ => n - (intOf i).toNat)
    case atStart => exact ⟨0, 0, Nat.zero_le _, rfl, rfl⟩
    case round =>
      obtain ⟨k, m, hk, rfl, rfl⟩ := hrel
      by_cases hlt : k < n
      · obtain ⟨c1, c2⟩ := H.out k hlt
        have i1 : (0 : Int) ≤ (k : Int) := by omega
        have i2 : (k : Int) < (n : Int) := by omega
        go_wp2
        go_quiet (fail)
        go_wp2
        go_roundw
        case rel => exact ⟨k + 1, _, by omega, by go_num, rfl⟩
        case measure => simp [intOf]; omega
      · go_wp2
        go_ret
        exact ⟨rfl, m, rfl⟩
  · have hz : n = 0 := by omega
    subst hz
    clear h h'
    go_enter Try.func20, Try.ntmps20
    go_wp2
    go_loopw [5] (fun i wr => i = .int .i64 0 ∧ wr = w) (fun _ _ => 0)
    case atStart => exact ⟨rfl, rfl⟩
    case round =>
      obtain ⟨rfl, rfl⟩ := hrel
      go_wp2
      go_ret
      exact ⟨rfl, 0, rfl⟩
/-- Is a state too much to be played? -/
def bigB (nr nc no : Nat) : Bool := decide (40 < nr ∨ 40 < nc ∨ 1000 < no)
theorem big_no {nr nc no : Nat} (h : bigB nr nc no = false) : nr ≤ 40 ∧ nc ≤ 40 ∧ no ≤ 1000 := by
  unfold bigB at h; simp at h; omega
theorem big_any (w : World) (Ar Ac Ao : Option Addr) (nr cr nc cc no co : Nat) (pc : Int) (hl st : Bool) :
    Calls Try.prog 11 #[.agg #[.slice Ar nr cr, .int .i64 pc, .slice Ac nc cc, .bool hl, .bool st, .slice Ao no co]] w fun e w' => e = .returned (.bool (bigB nr nc no)) ∧ Below w.heap.size w w' := by
  by_cases h1 : 40 < nr
  · have e : bigB nr nc no = true := by unfold bigB; simp [h1]
    rw [e]; clear e
    have d1 : (40 : Int) < nr := by omega
    go_enter Try.func11, Try.ntmps11
    go_wp2
    go_ret
    exact ⟨rfl, (Below.refl _ _).alloc (Nat.le_refl _) _⟩
  have d1 : decide ((40 : Int) < nr) = false := by simp; omega
  by_cases h2 : 40 < nc
  · have e : bigB nr nc no = true := by unfold bigB; simp [h2]
    rw [e]; clear e
    have d2 : (40 : Int) < nc := by omega
    go_enter Try.func11, Try.ntmps11
    go_wp2
    go_ret
    exact ⟨rfl, (Below.refl _ _).alloc (Nat.le_refl _) _⟩
  have d2 : decide ((40 : Int) < nc) = false := by simp; omega
  by_cases h3 : 1000 < no
  · have e : bigB nr nc no = true := by unfold bigB; simp [h3]
    rw [e]; clear e
    have d3 : (1000 : Int) < no := by omega
    go_enter Try.func11, Try.ntmps11
    go_wp2
    go_ret
    exact ⟨rfl, (Below.refl _ _).alloc (Nat.le_refl _) _⟩
  have d3 : decide ((1000 : Int) < no) = false := by simp; omega
  have e : bigB nr nc no = false := by unfold bigB; simp [h1, h2, h3]
  rw [e]; clear e
  go_enter Try.func11, Try.ntmps11
  go_wp2
  go_ret
  exact ⟨rfl, (Below.refl _ _).alloc (Nat.le_refl _) _⟩
end Go.Proofs.Ytdnmjhkgibaadaa
