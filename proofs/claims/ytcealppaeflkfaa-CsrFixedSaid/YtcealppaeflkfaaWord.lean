/- What package word and the reference's words compute, of every number: each call returns the plain number that is written there and changes nothing. No conditions. -/
import Derived.Test.YtcealppaeflkfaaRows
import Derived.Test.YtcealppaeflkfaaPlain
import Derived.WalkKit
import Derived.WalkLawsBesides
namespace Go.Proofs.Ytcealppaeflkfaa
open Go.RowKit

theorem ret_int {k : IntKind} {a b : Int} (h : a = b) : Ending.returned (.int k a) = .returned (.int k b) := by rw [h]
theorem ret_bool {a b : Bool} (h : a = b) : Ending.returned (.bool a) = .returned (.bool b) := by rw [h]

theorem of_any (a : Int) (w : World) : Calls Try.prog 32 #[.int .i64 a] w fun e w' => e = .returned (.int .i64 (W a)) ∧ w = w' := by
  go_enter Try.func32, Try.ntmps32
  go_wp2
  go_ret
  exact ⟨rfl, rfl⟩
theorem refW_any (a : Int) (w : World) : Calls Try.prog 30 #[.int .i64 a] w fun e w' => e = .returned (.int .i64 (W a)) ∧ w = w' := by
  go_enter Try.func30, Try.ntmps30
  go_wp2
  go_ret
  exact ⟨ret_int (and_word a), rfl⟩
theorem below_any (a b : Int) (w : World) : Calls Try.prog 33 #[.int .i64 a, .int .i64 b] w fun e w' => e = .returned (.bool (decide (W a < W b))) ∧ w = w' := by
  go_enter Try.func33, Try.ntmps33
  go_wp2
  go_ret
  exact ⟨ret_bool rfl, rfl⟩
end Go.Proofs.Ytcealppaeflkfaa
