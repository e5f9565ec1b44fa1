/- Proved: the Go law 'trunnionlaw3.CsrTurns' returns true for every input and leaves its arguments as they were (the given statement Rows.CsrTurnsSaid). No conditions. The frame round the walk was written by the kit's proof-skeleton.mjs. -/
import Derived.Test.YtcealppaeflkfaaRows
import Derived.Test.YtcealppaeflkfaaCsr
import Derived.WalkKit
import Derived.ProofKit
import Derived.OpenShut
import Derived.ShutString
namespace Go.Proofs.Ytcealppaeflkfaa.csrTurns
open Go.ChangeShapes Go.WideShapes Go.ChangeAt Go.RowKit
open Go.ChangeMaps (open_string shut_string)
set_option linter.unusedVariables false

theorem own : ownKnob Try.prog.godebug = none := by kernel_rfl

theorem walk (a0 : Int) (w0 : (Lit.int .i64 a0).wf = true) (w : World) :
    Calls Try.prog 7 #[.int .i64 a0] w fun e w' => e = .returned (.bool true) ∧ Grown w w' := by
  clear w0
  have h1 := and_1 a0
  have h4 := and_4 a0
  obtain ⟨E, hE⟩ : ∃ E, enterS a0 = E := ⟨_, rfl⟩
  have hE' := hE
  unfold enterS at hE'
  have l1 : leaveS 4 = 2 := by decide
  have l2 : leaveS 6 = 3 := by decide
  have l3 : leaveS 12 = 6 := by decide
  have l4 : leaveS 14 = 7 := by decide
  have b1 : bits .and .i64 2 1 = 0 := by decide
  have b2 : bits .and .i64 3 1 = 1 := by decide
  have b3 : bits .and .i64 6 1 = 0 := by decide
  have b4 : bits .and .i64 7 1 = 1 := by decide
  have b5 : bits .and .i64 4 1 = 0 := by decide
  have b6 : bits .and .i64 12 1 = 0 := by decide
  have b7 : bits .and .i64 14 1 = 0 := by decide
  rcases bit_cases a0 with k1 | k1 <;> rcases bit_cases (a0 / 4) with k4 | k4 <;> rw [k1] at h1 <;> rw [k4] at h4 <;> rw [k1, k4] at hE' <;> simp at hE' <;> subst hE' <;> clear k1
  all_goals
    go_enter Try.func7, Try.ntmps7
    go_wp2_with (first | (go_at_call 20; refine (alive3 _).mono ?_; rintro e w' ⟨rfl, rfl⟩) | (go_at_call 21; refine (enter_any _ _).mono ?_; rintro e w' ⟨rfl, rfl⟩) | (go_at_call 22; refine (refEnter_any _ _).mono ?_; rintro e w' ⟨rfl, rfl⟩) | (go_at_call 23; refine (leave_any _ _).mono ?_; rintro e w' ⟨rfl, rfl⟩) | (go_at_call 24; refine (refLeave_any _ _).mono ?_; rintro e w' ⟨rfl, rfl⟩) | (go_at_call 25; refine (user_any _ _).mono ?_; rintro e w' ⟨rfl, rfl⟩))
    go_ret
    exact ⟨rfl, Grown.refl _⟩

set_option maxRecDepth 100000 in
theorem lifted (os : Os) (started : os.Started) (H : Type) (enc : TypeId × Value → H) :
    ReturnsInHanded {} Try.checked os 7 .any (Rows.csrTurnsSpec.pre6 enc Try.prog Try.f7 Rows.csrTurnsRow.domain false) (Rows.csrTurnsSpec.post enc Try.prog Try.f7 false true false false) := by
  refine returnsInHanded_of_change (C := Try.checked) own started (by kernel_rfl) Try.func7
    (ChangeSpec.witness6 (enc := enc) (C := Try.checked) false ⟨#[], #[.int .i64 0], []⟩ 8 (by kernel_rfl) (by kernel_rfl) (by kernel_rfl) (by kernel_rfl)) ?_
  intro W base args ds gs before hval0 hW hcnd _
  have hval : ∀ (j : Nat) t v, Try.f7.params[j]? = some t → args[j]? = some v → Value.okWide Try.prog W .any base t v := hval0
  have hW' := hW
  obtain ⟨p, q, hA0, hV, rfl, hfz, hnd⟩ := hW
  have hA : DataW.TrodAll enc Try.prog W 0 (fun _ => true) true Try.f7.params.toList args.toList ds p := hA0
  rw [Try.params7] at hA hval
  obtain ⟨v0, vs0, d0, ds0, p0, q0, hargs, rfl, rfl, h0, r0⟩ := trodAll_cons hA
  obtain ⟨rfl, rfl, rfl⟩ := trodAll_nil r0
  obtain rfl : args = #[v0] := by cases args; simp_all
  obtain ⟨rfl, rfl⟩ := trodVars_none hV
  obtain ⟨a0, rfl, rfl, rfl, w0⟩ := open_int Try.underlying3 (hval 0 3 v0 rfl rfl) h0
  clear hA0 hval0
  simp only [List.append_nil] at hW'
  refine (walk a0 w0 W).mono fun e W' ⟨he, hg⟩ => ?_
  subst he
  exact ⟨_, rfl, post_of_same (pa := []) (pv := []) hW' (fun _ _ _ => (trodAll_cons_mk (shut_bool Try.underlying4 _) trodAll_mk0)) (fun sp _ => (trodAll_cons_mk (shut_int Try.underlying3 w0) trodAll_mk0)) (fun _ _ => rfl) rfl
    (hg.frame _) hg.2.1 (ok_one (by kernel_rfl) rfl (okWide_bool_mk Try.underlying4 _))⟩

theorem over : Rows.csrTurnsRow.holds Try.pinned (OpenSpec.ofChange Rows.csrTurnsSpec) :=
  OpenClaim.holds_of_wide 7 Try.f7 rfl rfl rfl rfl rfl rfl rfl ⟨rfl, rfl, rfl, rfl, rfl⟩ rfl rfl rfl rfl rfl (by kernel_rfl) Try.func7 (by kernel_rfl)
    (of_decide_eq_true (by kernel_rfl)) (by unfold Func.isWrapper; first | (rw [if_pos (by decide +kernel)]; kernel_rfl) | (rw [if_neg (by decide +kernel)]; exact ⟨rfl, rfl⟩))
    (fun os started H enc _ => lifted os started H enc)

theorem proved : Rows.CsrTurnsSaid :=
  over
#print axioms proved
end Go.Proofs.Ytcealppaeflkfaa.csrTurns
